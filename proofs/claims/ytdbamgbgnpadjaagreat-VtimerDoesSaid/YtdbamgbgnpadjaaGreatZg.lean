/- Texts of this proof, one behind the other. -/
import Derived.Test.YtdbamgbgnpadjaaGreatZf
import Derived.Test.YtdbamgbgnpadjaaGreatZd
import Derived.Test.YtdbamgbgnpadjaaGreatZb
/-! Alarms: the document's Pass. -/
namespace Go.Proofs.YtdbamgbgnpadjaaGreat
open Go Go.RowKit

set_option maxRecDepth 100000 in
theorem rpass8_t (now : Int) (p : Option Addr) (n cap : Nat) (ts : List Tim) (pa : Option Addr) (na ca : Nat) (rs : List Alm) (to : Int) (w : World)
 (hts : Sv w p ts) (hn : n = ts.length) (hb : n ≤ 1000)
 (hrs : Sv w pa rs) (hna : na = rs.length) (hba : na ≤ 1000)
 (hg : alB now ts rs = true)
 : Calls Tryz.prog 23 #[.agg #[.int .i64 now, .slice p n cap, .slice pa na ca], .int .i64 to] w fun e w' => ∃ q m c Y q2 m2 c2 X q3 m3 c3 Z, e = .returned (.tuple #[.agg #[.int .i64 (passA now ts rs to).1, .slice q m c, .slice q2 m2 c2], .slice q3 m3 c3, .int .i64 (passA now ts rs to).2.2.2]) ∧ SlO 42 Y q m c (passA now ts rs to).2.1 ∧ SlO 32 X q2 m2 c2 (passA now ts rs to).2.2.1 ∧ SlO 50 Z q3 m3 c3 (passR now ts rs to) ∧ Below w.heap.size w w' ∧ Hs w (Y ++ (X ++ Z)) w' := by
 refine enter (Hs.start w) Tryz.func23 rfl Tryz.ntmps23 rfl (sq_ (ma0 [] [1] (fun γ1 => [(2, .pointer (some ⟨γ1 0, 0, none⟩)), (4, .pointer (some ⟨γ1 1, 0, none⟩))]) (fun γ1 L => bx (γ1 1) (#[.int .i64 0, .slice none 0 0, .slice none 0 0]) 27 :: bx (γ1 0) (#[.int .i64 now, .slice p n cap, .slice pa na ca]) 27 :: L) (fun γ1 => ds_ (sq_ (sq_ ?_)))))
 have hgA := al_iff.1 hg
 have hn0 := hgA.gw.n0
 have hn1 := hgA.gw.n1
 have hl0 := hgA.gw.len
 have hl0r := hgA.rl
 by_cases q3 : (to : Int) < (now : Int)
 ·
  refine qa [(3, .go (owns 1 0 1)), (4, .yes)] [1, 2, 4] [(25, .bool true)] ([(to : Int) < (now : Int)]) (al1 q3) (ds_ (t_ (sq_ (qa0 [(1, .go (owns 0 0 3))] [4] [(5, .slice none 0 0), (6, .int .i64 2)] (ds_ (rt (owns 0 0 3) (.tuple #[.agg #[.int .i64 0, .slice none 0 0, .slice none 0 0], .slice none 0 0, .int .i64 2]) ?_))))))
  exact fun w' hw => by rw [passA_arg hg (by omega), passR_arg (by omega)]; exact ⟨none, 0, 0, [], none, 0, 0, [], none, 0, 0, [], rfl, SlO.nil, SlO.nil, SlO.nil, hw.below, hw.sub (List.nil_sublist _)⟩
 ·
  by_cases q7 : (to : Int) > (1125899906842624 : Int)
  ·
   refine qa [(3, .go (owns 1 0 1)), (4, .no), (7, .yes)] [1, 2, 4] [(25, .bool true)] ([¬ ((to : Int) < (now : Int))] ++ ([(to : Int) > (1125899906842624 : Int)])) (alA (al1 q3) (al1 q7)) (ds_ (t_ (sq_ (qa0 [(1, .go (owns 0 0 3))] [4] [(5, .slice none 0 0), (6, .int .i64 2)] (ds_ (rt (owns 0 0 3) (.tuple #[.agg #[.int .i64 0, .slice none 0 0, .slice none 0 0], .slice none 0 0, .int .i64 2]) ?_))))))
   exact fun w' hw => by rw [passA_arg hg (by omega), passR_arg (by omega)]; exact ⟨none, 0, 0, [], none, 0, 0, [], none, 0, 0, [], rfl, SlO.nil, SlO.nil, SlO.nil, hw.below, hw.sub (List.nil_sublist _)⟩
  ·
   refine qa [(3, .go (owns 1 0 1)), (4, .no), (7, .no)] [1, 2, 4] [(25, .bool false)] ([¬ ((to : Int) < (now : Int))] ++ ([¬ ((to : Int) > (1125899906842624 : Int))])) (alA (al1 q3) (al1 q7)) (ds_ (f_ (at_skip (ds_ (sq_ ?_)))))
   have hsp : now ≤ to ∧ to ≤ 1125899906842624 := by omega
   have hkF := fired_len (to := to) hgA.gw
   refine ao_ (qo0 3 [(1, .go (owns 1 0 2))] [1, 2, 4] [(29, .agg #[.int .i64 now, .slice p n cap]), (30, .int .i64 to)] (cP (fun v L' => ∃ q_ m_ c_ Y_ q2_ m2_ c2_ X_, v = .tuple #[.agg #[.int .i64 to, .slice q_ m_ c_], .slice q2_ m2_ c2_] ∧ L' = List.take 2 ([bx (γ1 1) (#[.int .i64 0, .slice none 0 0, .slice none 0 0]) 27, bx (γ1 0) (#[.int .i64 now, .slice p n cap, .slice pa na ca]) 27]) ++ (Y_ ++ (X_ ++ List.drop 2 ([bx (γ1 1) (#[.int .i64 0, .slice none 0 0, .slice none 0 0]) 27, bx (γ1 0) (#[.int .i64 now, .slice p n cap, .slice pa na ca]) 27]))) ∧ SlO 42 Y_ q_ m_ c_ (leL ts to) ∧ SlO 42 X_ q2_ m2_ c2_ (sortT (duL ts to))) (fun args w => Tryz.call54 args w) (fun w hw => (rpass_t now p n cap ts to w (hts.kept hw.below) hn (by omega)).mono fun e w' ⟨q_, c_, Y_, q2_, c2_, X_, he, h1, h2, hb, hY⟩ => ⟨_, _, he, ⟨q_, _, c_, Y_, q2_, _, c2_, X_, rfl, rfl, h1, h2.as (rdue_is hgA.gw.rs)⟩, hw.joinT hb hY 2⟩) ?_))
   rintro v12 L12 ⟨q12, m12, c12, Y12, p12, k12, d12, Yx12, rfl, rfl, hO12, hP12⟩
   have hm12 := hO12.len
   have hn12 := hP12.len
   refine mo0 6 [(8, .go (owns 0 0 2))] [1, 2, 4] (fun γ13 => [(7, .pointer (some ⟨γ13 0, 0, none⟩)), (8, .slice p12 k12 d12)]) (fun γ13 L => bx (γ13 0) (#[.int .i64 to, .slice q12 m12 c12]) 24 :: L) (fun γ13 => on_ (ds_ (sq_ (ao_ (qo0 1 [(0, .go (owns 2 0 3))] [1, 2, 4, 7, 8] [(34, .agg #[.int .i64 now, .slice p n cap, .slice pa na ca])] (cP (fun v L' => ∃ q_ m_ c_ Y_ q2_ m2_ c2_ X_, v = .agg #[.int .i64 now, .slice q_ m_ c_, .slice q2_ m2_ c2_] ∧ L' = List.take 3 (bx (γ13 0) (#[.int .i64 to, .slice q12 m12 c12]) 24 :: bx (γ1 1) (#[.int .i64 0, .slice none 0 0, .slice none 0 0]) 27 :: bx (γ1 0) (#[.int .i64 now, .slice p n cap, .slice pa na ca]) 27 :: (Y12 ++ (Yx12 ++ []))) ++ (Y_ ++ (X_ ++ List.drop 3 (bx (γ13 0) (#[.int .i64 to, .slice q12 m12 c12]) 24 :: bx (γ1 1) (#[.int .i64 0, .slice none 0 0, .slice none 0 0]) 27 :: bx (γ1 0) (#[.int .i64 now, .slice p n cap, .slice pa na ca]) 27 :: (Y12 ++ (Yx12 ++ []))))) ∧ SlO 42 Y_ q_ m_ c_ ts ∧ SlO 32 X_ q2_ m2_ c2_ rs) (fun args w => Tryz.call10 args w) (fun w hw => (copy_t now p n cap ts pa na ca rs w (hts.kept hw.below) hn (by omega) (hrs.kept hw.below) hna (by omega)).mono fun e w' ⟨q_, m_, c_, Y_, q2_, m2_, c2_, X_, he, h1, h2, hb, hY⟩ => ⟨_, _, he, ⟨q_, m_, c_, Y_, q2_, m2_, c2_, X_, rfl, rfl, h1, h2⟩, hw.joinT hb hY 3⟩) ?_))))))
   rintro v15 L15 ⟨q15, m15, c15, Y15, p15, k15, d15, Yx15, rfl, rfl, hO15, hP15⟩
   have hm15 := hO15.len
   have hn15 := hP15.len
   refine mo0 2 [(3, .go (owns 0 0 3))] [1, 2, 4, 7, 8] (fun γ16 => [(9, .pointer (some ⟨γ16 0, 0, none⟩))]) (fun γ16 L => bx (γ16 0) (#[.int .i64 now, .slice q15 m15 c15, .slice p15 k15 d15]) 27 :: L) (fun γ16 => on_ (ds_ (sq_ (ma0 [(0, .go (owns 1 0 2)), (2, .go (owns 0 0 2))] [1, 2, 4, 8, 9] (fun _ => []) (fun _ L => (L.set 0 (bx (γ16 0) (#[.int .i64 to, .slice q12 m12 c12, .slice p15 k15 d15]) 27))) (fun _ => ds_ (sq_ (qa0 [] [1, 2, 4, 8, 9] [(10, .slice none 0 0)] (ds_ (sq_ (sq_ (qa0 [] [1, 2, 4, 9, 10] [(38, .slice p12 k12 d12), (39, .int .i64 (k12 : Nat)), (40, .int .i64 0)] (ds_ (at_block (At.pick [[bx (γ16 0) (#[.int .i64 to, .slice q12 m12 c12, .slice p15 k15 d15]) 27], [bx (γ13 0) (#[.int .i64 to, .slice q12 m12 c12]) 24], [bx (γ1 1) (#[.int .i64 0, .slice none 0 0, .slice none 0 0]) 27], [bx (γ1 0) (#[.int .i64 now, .slice p n cap, .slice pa na ca]) 27], Y15, Yx15, Y12, Yx12] [0, 1, 2, 3, 6, 5, 7] [4] (bx (γ16 0) (#[.int .i64 to, .slice q12 m12 c12, .slice p15 k15 d15]) 27 :: bx (γ13 0) (#[.int .i64 to, .slice q12 m12 c12]) 24 :: bx (γ1 1) (#[.int .i64 0, .slice none 0 0, .slice none 0 0]) 27 :: bx (γ1 0) (#[.int .i64 now, .slice p n cap, .slice pa na ca]) 27 :: (Y12 ++ (Yx15 ++ (Yx12 ++ [])))) (by kernel_rfl) rfl rfl (at_loop (α := Nat × List Ob × Option Addr × Nat × Nat × List Ob × Option Addr × Nat × Nat × List Ob × Option Addr × Nat × Nat) [1, 2, 4, 9, 10, 38, 39, 40] (fun ⟨j, Yt, pt, nt, ct, Yr, pr, nr, cr, Yo, po, no, co⟩ => [(1, .int .i64 to), (2, .pointer (some ⟨γ1 0, 0, none⟩)), (4, .pointer (some ⟨γ1 1, 0, none⟩)), (9, .pointer (some ⟨γ16 0, 0, none⟩)), (10, .slice po no co), (38, .slice p12 k12 d12), (39, .int .i64 (k12 : Nat)), (40, .int .i64 (j : Nat))]) (fun ⟨j, Yt, pt, nt, ct, Yr, pr, nr, cr, Yo, po, no, co⟩ => bx (γ16 0) (#[.int .i64 to, .slice pt nt ct, .slice pr nr cr]) 27 :: bx (γ13 0) (#[.int .i64 to, .slice q12 m12 c12]) 24 :: bx (γ1 1) (#[.int .i64 0, .slice none 0 0, .slice none 0 0]) 27 :: bx (γ1 0) (#[.int .i64 now, .slice p n cap, .slice pa na ca]) 27 :: (Yt ++ (Yr ++ (Yo ++ (Yx12 ++ []))))) (fun ⟨j, Yt, pt, nt, ct, Yr, pr, nr, cr, Yo, po, no, co⟩ => j ≤ k12 ∧ SlO 42 Yt pt nt ct (rgT to ts rs j) ∧ SlO 32 Yr pr nr cr (rgR to ts rs j) ∧ SlO 50 Yo po no co (rgO to ts rs j)) (fun ⟨j, Yt, pt, nt, ct, Yr, pr, nr, cr, Yo, po, no, co⟩ => k12 - j) (0, Y12, q12, m12, c12, Yx15, p15, k15, d15, [], none, 0, 0) (by kernel_rfl) rfl ⟨Nat.zero_le _, hO12, hP15, SlO.nil⟩ ?_)))))))))))))))
   rintro ⟨j, Yt, pt, nt, ct, Yr, pr, nr, cr, Yo, po, no, co⟩
   rintro ⟨hj, hT, hR, hQ⟩
   obtain ⟨hI, hOO, hRR⟩ := rings_inv hgA hsp.1 hsp.2 j (by omega)
   have hlw : (rgT to ts rs j).length ≤ 32 := (wheel_iff.1 hI.wh').len
   have hlr : (rgR to ts rs j).length ≤ 16 := rows_len hI.rr' hI.al'
   have hlo : (rgO to ts rs j).length ≤ j := hI.ol
   have hnt := hT.len
   have hnr := hR.len
   have hno := hQ.len
   refine sq_ ?_
   by_cases q21 : ((j : Nat) : Int) < ((k12 : Nat) : Int)
   ·
    refine qa [(0, .yes)] [1, 2, 4, 9, 10, 38, 39, 40] [(41, .bool true)] ([((j : Nat) : Int) < ((k12 : Nat) : Int)]) (al1 q21) (ds_ (sq_ (t_ (at_skip (ds_ (sq_ (at_block (sq_ (At.pick [[bx (γ16 0) (#[.int .i64 to, .slice pt nt ct, .slice pr nr cr]) 27], [bx (γ13 0) (#[.int .i64 to, .slice q12 m12 c12]) 24], [bx (γ1 1) (#[.int .i64 0, .slice none 0 0, .slice none 0 0]) 27], [bx (γ1 0) (#[.int .i64 now, .slice p n cap, .slice pa na ca]) 27], Yt, Yr, Yo, Yx12] [0, 1, 2, 3, 7, 4, 5, 6] [] (bx (γ16 0) (#[.int .i64 to, .slice pt nt ct, .slice pr nr cr]) 27 :: bx (γ13 0) (#[.int .i64 to, .slice q12 m12 c12]) 24 :: bx (γ1 1) (#[.int .i64 0, .slice none 0 0, .slice none 0 0]) 27 :: bx (γ1 0) (#[.int .i64 now, .slice p n cap, .slice pa na ca]) 27 :: (Yx12 ++ (Yt ++ (Yr ++ (Yo ++ []))))) (by kernel_rfl) rfl rfl ?_)))))))))
    have hln24 := hP12.len
    obtain ⟨g24, cs24, rfl, rfl, hOw24⟩ := hP12.rowOf (i := j) (by omega)
    obtain ⟨x26, hx26⟩ := get_some (l := (sortT (duL ts to))) (m := j) (by omega)
    refine ma [(0, .at g24 0 j), (1, .go (ownps 4 (0 + j * 2) [.int .i64 x26.id, .int .i64 x26.due])), (3, .go (owns 0 0 2))] [1, 2, 4, 9, 10, 38, 39, 40] (fun γ27 => [(12, .pointer (some ⟨γ27 0, 0, none⟩))]) (fun γ27 L => bx (γ27 0) (#[.int .i64 x26.id, .int .i64 x26.due]) 42 :: L) (fun γ27 => [(some ⟨g24, 0, none⟩ : Option Addr) = some ⟨g24, 0, none⟩, (j : Nat) = ((j : Nat) : Int), j < k12] ++ (acellsP cs24 (0 + j * 2) [.int .i64 x26.id, .int .i64 x26.due])) (fun γ27 => (alA (al2 rfl (al2 rfl (al1 (by omega)))) (rda_pre (hOw24.rdx hP12.len hx26) _ rfl))) (fun γ27 => ds_ (sq_ (sq_ ?_)))
    have hft := fired_tm hgA.gw (List.mem_of_getElem? hx26)
    by_cases q29 : (x26.id : Int) ≥ (16 : Int)
    ·
     refine qa [(1, .go (owns 0 0 1)), (2, .yes)] [1, 2, 4, 9, 10, 12, 38, 39, 40] [(46, .bool true)] ([(x26.id : Int) ≥ (16 : Int)]) (al1 q29) (ds_ (t_ (sq_ (ao_ (mo 9 [(2, .go (owns 0 0 1)), (3, .fit), (4, .fit), (6, .go (owns 0 1 1))] [1, 2, 4, 9, 38, 39, 40] (fun γ31 => [(47, .slice po no co), (55, .slice (some ⟨γ31 0, 0, none⟩) 1 1)]) (fun γ31 L => bx (γ31 0) (#[.int .i64 ((x26.id - 16) + 1), .int .i64 0, .int .i64 x26.due, .int .i64 0]) 50 :: L) (fun γ31 => [Fit .i64 (x26.id - 16)] ++ ([Fit .i64 ((x26.id - 16) + 1)])) (fun γ31 => (alA (al1 (fit64 (by omega) (by omega))) (al1 (fit64 (by omega) (by omega))))) (fun γ31 => Ops.pick [[bx (γ31 0) (#[.int .i64 ((x26.id - 16) + 1), .int .i64 0, .int .i64 x26.due, .int .i64 0]) 50], [bx (γ27 0) (#[.int .i64 x26.id, .int .i64 x26.due]) 42], [bx (γ16 0) (#[.int .i64 to, .slice pt nt ct, .slice pr nr cr]) 27], [bx (γ13 0) (#[.int .i64 to, .slice q12 m12 c12]) 24], [bx (γ1 1) (#[.int .i64 0, .slice none 0 0, .slice none 0 0]) 27], [bx (γ1 0) (#[.int .i64 now, .slice p n cap, .slice pa na ca]) 27], [bx g24 cs24 42], Yt, Yr, Yo] [0, 1, 2, 3, 4, 5, 6, 9, 7, 8] [] (bx (γ31 0) (#[.int .i64 ((x26.id - 16) + 1), .int .i64 0, .int .i64 x26.due, .int .i64 0]) 50 :: bx (γ27 0) (#[.int .i64 x26.id, .int .i64 x26.due]) 42 :: bx (γ16 0) (#[.int .i64 to, .slice pt nt ct, .slice pr nr cr]) 27 :: bx (γ13 0) (#[.int .i64 to, .slice q12 m12 c12]) 24 :: bx (γ1 1) (#[.int .i64 0, .slice none 0 0, .slice none 0 0]) 27 :: bx (γ1 0) (#[.int .i64 now, .slice p n cap, .slice pa na ca]) 27 :: bx g24 cs24 42 :: (Yo ++ (Yt ++ (Yr ++ [])))) (by kernel_rfl) rfl rfl (ops_append (α := Rng) [bx (γ31 0) (#[.int .i64 ((x26.id - 16) + 1), .int .i64 0, .int .i64 x26.due, .int .i64 0]) 50, bx (γ27 0) (#[.int .i64 x26.id, .int .i64 x26.due]) 42, bx (γ16 0) (#[.int .i64 to, .slice pt nt ct, .slice pr nr cr]) 27, bx (γ13 0) (#[.int .i64 to, .slice q12 m12 c12]) 24, bx (γ1 1) (#[.int .i64 0, .slice none 0 0, .slice none 0 0]) 27, bx (γ1 0) (#[.int .i64 now, .slice p n cap, .slice pa na ca]) 27, bx g24 cs24 42] Yo (Yt ++ (Yr ++ [])) (.refl _) rfl (by kernel_rfl) (by kernel_rfl) (p := po) (n := no) (cap := co) (m := 1) (yv := .slice (some ⟨γ31 0, 0, none⟩) 1 1) (by kernel_rfl) (by kernel_rfl) (T := 50) (by_ := 32) (by kernel_rfl) (rgO to ts rs j) ([⟨(x26.id - 16) + 1, 0, x26.due, 0⟩]) hQ (fun w hw => src_svn Tryz.underlying35 (sv_row (hw.row 0 rfl) (by rfl)) (by rfl)) (by rfl) (by have hmx : maxLen = 9223372036854775807 := rfl; omega) (by have hmx : maxLen = 9223372036854775807 := rfl; omega) (fun Y32 p32 cap32 hO32 => ?_))))))))
     refine qo0 1 [] [1, 2, 4, 9, 38, 39, 40] [(10, .slice p32 (no + 1) cap32)] (on_ (ds_ (at_leave _ rfl (ds_ (qa [(0, .fit)] [1, 2, 4, 9, 10, 38, 39] [(40, .int .i64 (j + 1 : Nat))] ([Fit .i64 ((j + 1 : Nat))]) (al1 (fit64 (by omega) (by omega))) (Done.pick [[bx (γ31 0) (#[.int .i64 ((x26.id - 16) + 1), .int .i64 0, .int .i64 x26.due, .int .i64 0]) 50], [bx (γ27 0) (#[.int .i64 x26.id, .int .i64 x26.due]) 42], [bx (γ16 0) (#[.int .i64 to, .slice pt nt ct, .slice pr nr cr]) 27], [bx (γ13 0) (#[.int .i64 to, .slice q12 m12 c12]) 24], [bx (γ1 1) (#[.int .i64 0, .slice none 0 0, .slice none 0 0]) 27], [bx (γ1 0) (#[.int .i64 now, .slice p n cap, .slice pa na ca]) 27], [bx g24 cs24 42], Y32, Yt, Yr] [2, 3, 4, 5, 8, 9, 7, 6] [0, 1] (bx (γ16 0) (#[.int .i64 to, .slice pt nt ct, .slice pr nr cr]) 27 :: bx (γ13 0) (#[.int .i64 to, .slice q12 m12 c12]) 24 :: bx (γ1 1) (#[.int .i64 0, .slice none 0 0, .slice none 0 0]) 27 :: bx (γ1 0) (#[.int .i64 now, .slice p n cap, .slice pa na ca]) 27 :: (Yt ++ (Yr ++ (Y32 ++ ([bx g24 cs24 42]))))) (by kernel_rfl) rfl rfl ?_))))))
     have heq := rg_hi (rs := rs) hx26 (by omega)
     exact dr [1, 2, 4, 9, 10, 38, 39, 40] (j + 1, Yt, pt, nt, ct, Yr, pr, nr, cr, Y32, p32, (no + 1), cap32) ⟨by omega, SlO.as hT (by rw [rgT_of heq]), SlO.as hR (by rw [rgR_of heq]), SlO.as hO32 (by rw [rgO_of heq])⟩
    ·
     refine qa [(1, .go (owns 0 0 1)), (2, .no)] [1, 2, 4, 9, 10, 12, 38, 39, 40] [(46, .bool false)] ([¬ ((x26.id : Int) ≥ (16 : Int))]) (al1 q29) (ds_ (f_ (at_skip (ds_ (sq_ ?_)))))
     obtain ⟨z, hz⟩ := hI.pn' x26 (mem_at hx26) (by omega)
     have hz0 : getK Alm.vcpu rs (x26.id + 1) = some z := by rw [← hRR x26 (mem_at hx26)]; exact hz
     obtain ⟨iz, hiz, hxz⟩ := fd_some hgA.rr hz0
     have hlz := (List.getElem?_eq_some_iff.1 hxz).1
     have haz := hI.al' z (getK_mem hz).1
     have hzv : z.vcpu = x26.id + 1 := (getK_mem hz).2
     have hze := alm_every haz
     have hms := miss_bnd (at_ := x26.due) (to := to) haz (by omega)
     have hml := miss_le (at_ := x26.due) (to := to) haz (by omega)
     have hmm := miss_mul (at_ := x26.due) (to := to) haz (by omega)
     have hme : (missA z x26.due to + 1) * z.every = missA z x26.due to * z.every + z.every := by rw [Int.add_mul, Int.one_mul]
     obtain ⟨b36, o36, rfl⟩ := hrs.pos (i := iz) (by omega)
     refine at_any (by kernel_rfl) ?_
     refine tk (m := 9) [0, 3] [] [1, 2, 4, 9, 10, 12, 38, 39, 40] [(57, .pointer (some ⟨γ1 0, 2, none⟩)), (60, .pointer (some ⟨γ27 0, 0, none⟩))] ([]) #[true, false, false, true, false, false, false, false, false, false, false] al0 ?_
     refine any_cutX (V := (Nat → Nat)) (fun γ220 => True) 0 #[true, true, true, true, true, true, true, true, true, true, true] (fun γ220 => [(1, .int .i64 to), (2, .pointer (some ⟨γ1 0, 0, none⟩)), (4, .pointer (some ⟨γ1 1, 0, none⟩)), (9, .pointer (some ⟨γ16 0, 0, none⟩)), (10, .slice po no co), (12, .pointer (some ⟨γ27 0, 0, none⟩)), (13, .pointer (some ⟨γ220 0, 0, none⟩)), (38, .slice (some ⟨g24, 0, none⟩) k12 d12), (39, .int .i64 (k12 : Nat)), (40, .int .i64 (j : Nat))]) (fun γ220 => bx (γ220 0) (#[.int .i64 z.vcpu, .int .i64 z.port, .int .i64 z.every]) 32 :: bx (γ27 0) (#[.int .i64 x26.id, .int .i64 x26.due]) 42 :: bx (γ16 0) (#[.int .i64 to, .slice pt nt ct, .slice pr nr cr]) 27 :: bx (γ13 0) (#[.int .i64 to, .slice q12 m12 c12]) 24 :: bx (γ1 1) (#[.int .i64 0, .slice none 0 0, .slice none 0 0]) 27 :: bx (γ1 0) (#[.int .i64 now, .slice p n cap, .slice (some ⟨b36, o36, none⟩) na ca]) 27 :: bx g24 cs24 42 :: (Yt ++ (Yr ++ (Yo ++ [])))) ?_ (fun hmx22 => ?_)
     rotate_left
     ·
      refine any_cutX (V := (Nat → Nat)) (fun γ220 => True) 1 #[true, true, true, true, true, true, true, true, true, true, false] (fun γ220 => [(1, .int .i64 to), (2, .pointer (some ⟨γ1 0, 0, none⟩)), (4, .pointer (some ⟨γ1 1, 0, none⟩)), (9, .pointer (some ⟨γ16 0, 0, none⟩)), (10, .slice po no co), (12, .pointer (some ⟨γ27 0, 0, none⟩)), (13, .pointer (some ⟨γ220 0, 0, none⟩)), (38, .slice (some ⟨g24, 0, none⟩) k12 d12), (39, .int .i64 (k12 : Nat)), (40, .int .i64 (j : Nat)), (65, .agg #[.int .i64 z.vcpu, .int .i64 z.port, .int .i64 z.every])]) (fun γ220 => bx (γ220 0) (#[.int .i64 0, .int .i64 0, .int .i64 0]) 32 :: bx (γ27 0) (#[.int .i64 x26.id, .int .i64 x26.due]) 42 :: bx (γ16 0) (#[.int .i64 to, .slice pt nt ct, .slice pr nr cr]) 27 :: bx (γ13 0) (#[.int .i64 to, .slice q12 m12 c12]) 24 :: bx (γ1 1) (#[.int .i64 0, .slice none 0 0, .slice none 0 0]) 27 :: bx (γ1 0) (#[.int .i64 now, .slice p n cap, .slice (some ⟨b36, o36, none⟩) na ca]) 27 :: bx g24 cs24 42 :: (Yt ++ (Yr ++ (Yo ++ [])))) ?_ (fun hmx21 => ?_)
      ·
       rintro γ220 _
       refine a1 10 rfl ?_
       refine mo0 1 [(10, .go (owns 0 0 3))] [1, 2, 4, 9, 10, 12, 13, 38, 39, 40] (fun _ => []) (fun _ L => (L.set 0 (bx (γ220 0) (#[.int .i64 z.vcpu, .int .i64 z.port, .int .i64 z.every]) 32))) (fun _ => ?_)
       refine od_ ?_
       exact wk (hmx22 γ220 trivial) [1, 2, 4, 9, 10, 12, 13, 38, 39, 40] [[_], [_], [_], [_], [_], [_], [_], _, _, _] [0, 1, 2, 3, 4, 5, 6, 7, 8, 9] rfl rfl
      refine any_cutX (V := Unit) (fun _ => True) 2 #[true, true, true, true, true, true, true, true, true, false, false] (fun _ => [(1, .int .i64 to), (2, .pointer (some ⟨γ1 0, 0, none⟩)), (4, .pointer (some ⟨γ1 1, 0, none⟩)), (9, .pointer (some ⟨γ16 0, 0, none⟩)), (10, .slice po no co), (12, .pointer (some ⟨γ27 0, 0, none⟩)), (38, .slice (some ⟨g24, 0, none⟩) k12 d12), (39, .int .i64 (k12 : Nat)), (40, .int .i64 (j : Nat)), (65, .agg #[.int .i64 z.vcpu, .int .i64 z.port, .int .i64 z.every])]) (fun _ => bx (γ27 0) (#[.int .i64 x26.id, .int .i64 x26.due]) 42 :: bx (γ16 0) (#[.int .i64 to, .slice pt nt ct, .slice pr nr cr]) 27 :: bx (γ13 0) (#[.int .i64 to, .slice q12 m12 c12]) 24 :: bx (γ1 1) (#[.int .i64 0, .slice none 0 0, .slice none 0 0]) 27 :: bx (γ1 0) (#[.int .i64 now, .slice p n cap, .slice (some ⟨b36, o36, none⟩) na ca]) 27 :: bx g24 cs24 42 :: (Yt ++ (Yr ++ (Yo ++ [])))) ?_ (fun hmx20 => ?_)
      ·
       rintro _ _
       refine a1 9 rfl ?_
       refine mo0 1 [] [1, 2, 4, 9, 10, 12, 38, 39, 40, 65] (fun γ220 => [(13, .pointer (some ⟨γ220 0, 0, none⟩))]) (fun γ220 L => bx (γ220 0) (#[.int .i64 0, .int .i64 0, .int .i64 0]) 32 :: L) (fun γ220 => ?_)
       refine od_ ?_
       exact wk (hmx21 γ220 trivial) [1, 2, 4, 9, 10, 12, 13, 38, 39, 40, 65] [[_], [_], [_], [_], [_], [_], [_], _, _, _] [0, 1, 2, 3, 4, 5, 6, 7, 8, 9] rfl rfl
      refine any_cutX (V := (Nat → Nat)) (fun γ220 => True) 2 #[true, true, true, true, true, true, true, true, false, true, false] (fun γ220 => [(1, .int .i64 to), (2, .pointer (some ⟨γ1 0, 0, none⟩)), (4, .pointer (some ⟨γ1 1, 0, none⟩)), (9, .pointer (some ⟨γ16 0, 0, none⟩)), (10, .slice po no co), (12, .pointer (some ⟨γ27 0, 0, none⟩)), (13, .pointer (some ⟨γ220 0, 0, none⟩)), (38, .slice (some ⟨g24, 0, none⟩) k12 d12), (39, .int .i64 (k12 : Nat)), (40, .int .i64 (j : Nat)), (64, .pointer (some ⟨b36, o36 + iz * 3, none⟩))]) (fun γ220 => bx (γ220 0) (#[.int .i64 0, .int .i64 0, .int .i64 0]) 32 :: bx (γ27 0) (#[.int .i64 x26.id, .int .i64 x26.due]) 42 :: bx (γ16 0) (#[.int .i64 to, .slice pt nt ct, .slice pr nr cr]) 27 :: bx (γ13 0) (#[.int .i64 to, .slice q12 m12 c12]) 24 :: bx (γ1 1) (#[.int .i64 0, .slice none 0 0, .slice none 0 0]) 27 :: bx (γ1 0) (#[.int .i64 now, .slice p n cap, .slice (some ⟨b36, o36, none⟩) na ca]) 27 :: bx g24 cs24 42 :: (Yt ++ (Yr ++ (Yo ++ [])))) ?_ (fun hmx19 => ?_)
      ·
       rintro γ220 _
       refine a1 8 rfl ?_
       refine qo 1 [(8, .go (outs b36 (o36 + iz * 3) [.int .i64 z.vcpu, .int .i64 z.port, .int .i64 z.every]))] [1, 2, 4, 9, 10, 12, 13, 38, 39, 40] [(65, .agg #[.int .i64 z.vcpu, .int .i64 z.port, .int .i64 z.every])] (cellsP w b36 (o36 + iz * 3) [.int .i64 z.vcpu, .int .i64 z.port, .int .i64 z.every]) (rd_pre (hrs.get hxz) _ rfl) ?_
       refine od_ ?_
       exact wk (hmx21 γ220 trivial) [1, 2, 4, 9, 10, 12, 13, 38, 39, 40, 65] [[_], [_], [_], [_], [_], [_], [_], _, _, _] [0, 1, 2, 3, 4, 5, 6, 7, 8, 9] rfl rfl
      refine any_cutX (V := Unit) (fun _ => True) 3 #[true, true, true, true, true, true, true, true, false, false, false] (fun _ => [(1, .int .i64 to), (2, .pointer (some ⟨γ1 0, 0, none⟩)), (4, .pointer (some ⟨γ1 1, 0, none⟩)), (9, .pointer (some ⟨γ16 0, 0, none⟩)), (10, .slice po no co), (12, .pointer (some ⟨γ27 0, 0, none⟩)), (38, .slice (some ⟨g24, 0, none⟩) k12 d12), (39, .int .i64 (k12 : Nat)), (40, .int .i64 (j : Nat)), (64, .pointer (some ⟨b36, o36 + iz * 3, none⟩))]) (fun _ => bx (γ27 0) (#[.int .i64 x26.id, .int .i64 x26.due]) 42 :: bx (γ16 0) (#[.int .i64 to, .slice pt nt ct, .slice pr nr cr]) 27 :: bx (γ13 0) (#[.int .i64 to, .slice q12 m12 c12]) 24 :: bx (γ1 1) (#[.int .i64 0, .slice none 0 0, .slice none 0 0]) 27 :: bx (γ1 0) (#[.int .i64 now, .slice p n cap, .slice (some ⟨b36, o36, none⟩) na ca]) 27 :: bx g24 cs24 42 :: (Yt ++ (Yr ++ (Yo ++ [])))) ?_ (fun hmx18 => ?_)
      ·
       rintro _ _
       refine any_fork [8, 9] (by kernel_rfl) (by simp) (each_cons _ rfl ?_ (each_cons _ rfl ?_ (each_nil)))
       ·
        refine qo 1 [(8, .go (outs b36 (o36 + iz * 3) [.int .i64 z.vcpu, .int .i64 z.port, .int .i64 z.every]))] [1, 2, 4, 9, 10, 12, 38, 39, 40] [(65, .agg #[.int .i64 z.vcpu, .int .i64 z.port, .int .i64 z.every])] (cellsP w b36 (o36 + iz * 3) [.int .i64 z.vcpu, .int .i64 z.port, .int .i64 z.every]) (rd_pre (hrs.get hxz) _ rfl) ?_
        refine od_ ?_
        exact wk (hmx20 () trivial) [1, 2, 4, 9, 10, 12, 38, 39, 40, 65] [[_], [_], [_], [_], [_], [_], _, _, _] [0, 1, 2, 3, 4, 5, 6, 7, 8] rfl rfl
       ·
        refine mo0 1 [] [1, 2, 4, 9, 10, 12, 38, 39, 40, 64] (fun γ220 => [(13, .pointer (some ⟨γ220 0, 0, none⟩))]) (fun γ220 L => bx (γ220 0) (#[.int .i64 0, .int .i64 0, .int .i64 0]) 32 :: L) (fun γ220 => ?_)
        refine od_ ?_
        exact wk (hmx19 γ220 trivial) [1, 2, 4, 9, 10, 12, 13, 38, 39, 40, 64] [[_], [_], [_], [_], [_], [_], [_], _, _, _] [0, 1, 2, 3, 4, 5, 6, 7, 8, 9] rfl rfl
      refine any_cutX (V := (Nat → Nat)) (fun γ220 => True) 4 #[true, false, true, true, true, true, true, false, false, true, false] (fun γ220 => [(1, .int .i64 to), (2, .pointer (some ⟨γ1 0, 0, none⟩)), (4, .pointer (some ⟨γ1 1, 0, none⟩)), (9, .pointer (some ⟨γ16 0, 0, none⟩)), (10, .slice po no co), (12, .pointer (some ⟨γ27 0, 0, none⟩)), (13, .pointer (some ⟨γ220 0, 0, none⟩)), (38, .slice (some ⟨g24, 0, none⟩) k12 d12), (39, .int .i64 (k12 : Nat)), (40, .int .i64 (j : Nat)), (57, .pointer (some ⟨γ1 0, 2, none⟩)), (63, .int .i64 (iz : Nat))]) (fun γ220 => bx (γ220 0) (#[.int .i64 0, .int .i64 0, .int .i64 0]) 32 :: bx (γ27 0) (#[.int .i64 x26.id, .int .i64 x26.due]) 42 :: bx (γ16 0) (#[.int .i64 to, .slice pt nt ct, .slice pr nr cr]) 27 :: bx (γ13 0) (#[.int .i64 to, .slice q12 m12 c12]) 24 :: bx (γ1 1) (#[.int .i64 0, .slice none 0 0, .slice none 0 0]) 27 :: bx (γ1 0) (#[.int .i64 now, .slice p n cap, .slice (some ⟨b36, o36, none⟩) na ca]) 27 :: bx g24 cs24 42 :: (Yt ++ (Yr ++ (Yo ++ [])))) ?_ (fun hmx17 => ?_)
      ·
       rintro γ220 _
       refine a1 1 rfl ?_
       refine qo0 1 [(1, .go (owns 5 2 1))] [1, 2, 4, 9, 10, 12, 13, 38, 39, 40, 63] [(58, .slice (some ⟨b36, o36, none⟩) na ca)] ?_
       refine od_ ?_
       refine tk (m := 2) [7] [(7, .at b36 o36 iz)] [1, 2, 4, 9, 10, 12, 13, 38, 39, 40] [(64, .pointer (some ⟨b36, o36 + iz * 3, none⟩))] ([(some ⟨b36, o36, none⟩ : Option Addr) = some ⟨b36, o36, none⟩, (iz : Nat) = ((iz : Nat) : Int), iz < na]) #[true, true, true, true, true, true, true, true, false, true, false] (al2 rfl (al2 rfl (al1 (by omega)))) ?_
       exact wk (hmx19 γ220 trivial) [1, 2, 4, 9, 10, 12, 13, 38, 39, 40, 64] [[_], [_], [_], [_], [_], [_], [_], _, _, _] [0, 1, 2, 3, 4, 5, 6, 7, 8, 9] rfl rfl
      refine any_cutX (V := (Nat → Nat)) (fun γ220 => True) 4 #[true, true, true, true, true, true, false, false, false, true, false] (fun γ220 => [(1, .int .i64 to), (2, .pointer (some ⟨γ1 0, 0, none⟩)), (4, .pointer (some ⟨γ1 1, 0, none⟩)), (9, .pointer (some ⟨γ16 0, 0, none⟩)), (10, .slice po no co), (12, .pointer (some ⟨γ27 0, 0, none⟩)), (13, .pointer (some ⟨γ220 0, 0, none⟩)), (38, .slice (some ⟨g24, 0, none⟩) k12 d12), (39, .int .i64 (k12 : Nat)), (40, .int .i64 (j : Nat)), (58, .slice (some ⟨b36, o36, none⟩) na ca), (59, .agg #[.int .i64 now, .slice p n cap, .slice (some ⟨b36, o36, none⟩) na ca]), (62, .int .i64 (x26.id + 1))]) (fun γ220 => bx (γ220 0) (#[.int .i64 0, .int .i64 0, .int .i64 0]) 32 :: bx (γ27 0) (#[.int .i64 x26.id, .int .i64 x26.due]) 42 :: bx (γ16 0) (#[.int .i64 to, .slice pt nt ct, .slice pr nr cr]) 27 :: bx (γ13 0) (#[.int .i64 to, .slice q12 m12 c12]) 24 :: bx (γ1 1) (#[.int .i64 0, .slice none 0 0, .slice none 0 0]) 27 :: bx (γ1 0) (#[.int .i64 now, .slice p n cap, .slice (some ⟨b36, o36, none⟩) na ca]) 27 :: bx g24 cs24 42 :: (Yt ++ (Yr ++ (Yo ++ [])))) ?_ (fun hmx16 => ?_)
      ·
       rintro γ220 _
       refine a1 6 rfl ?_
       refine cD (.int .i64 (iz : Nat)) (fun args w => Tryz.call47 args w) (fun w hw => by have := rfind_t now p n cap ts (some ⟨b36, o36, none⟩) na ca rs (x26.id + 1) w (hts.kept hw.below) hn (by omega) (hrs.kept hw.below) hna (by omega); rw [hiz] at this; exact this) ?_
       refine od_ ?_
       refine tk (m := 2) [7] [(7, .at b36 o36 iz)] [1, 2, 4, 9, 10, 12, 13, 38, 39, 40] [(64, .pointer (some ⟨b36, o36 + iz * 3, none⟩))] ([(some ⟨b36, o36, none⟩ : Option Addr) = some ⟨b36, o36, none⟩, (iz : Nat) = ((iz : Nat) : Int), iz < na]) #[true, true, true, true, true, true, true, true, false, true, false] (al2 rfl (al2 rfl (al1 (by omega)))) ?_
       exact wk (hmx19 γ220 trivial) [1, 2, 4, 9, 10, 12, 13, 38, 39, 40, 64] [[_], [_], [_], [_], [_], [_], [_], _, _, _] [0, 1, 2, 3, 4, 5, 6, 7, 8, 9] rfl rfl
      refine any_cutX (V := Unit) (fun _ => True) 5 #[true, false, true, true, true, true, true, false, false, false, false] (fun _ => [(1, .int .i64 to), (2, .pointer (some ⟨γ1 0, 0, none⟩)), (4, .pointer (some ⟨γ1 1, 0, none⟩)), (9, .pointer (some ⟨γ16 0, 0, none⟩)), (10, .slice po no co), (12, .pointer (some ⟨γ27 0, 0, none⟩)), (38, .slice (some ⟨g24, 0, none⟩) k12 d12), (39, .int .i64 (k12 : Nat)), (40, .int .i64 (j : Nat)), (57, .pointer (some ⟨γ1 0, 2, none⟩)), (63, .int .i64 (iz : Nat))]) (fun _ => bx (γ27 0) (#[.int .i64 x26.id, .int .i64 x26.due]) 42 :: bx (γ16 0) (#[.int .i64 to, .slice pt nt ct, .slice pr nr cr]) 27 :: bx (γ13 0) (#[.int .i64 to, .slice q12 m12 c12]) 24 :: bx (γ1 1) (#[.int .i64 0, .slice none 0 0, .slice none 0 0]) 27 :: bx (γ1 0) (#[.int .i64 now, .slice p n cap, .slice (some ⟨b36, o36, none⟩) na ca]) 27 :: bx g24 cs24 42 :: (Yt ++ (Yr ++ (Yo ++ [])))) ?_ (fun hmx15 => ?_)
      ·
       rintro _ _
       refine any_fork [1, 9] (by kernel_rfl) (by simp) (each_cons _ rfl ?_ (each_cons _ rfl ?_ (each_nil)))
       ·
        refine qo0 1 [(1, .go (owns 4 2 1))] [1, 2, 4, 9, 10, 12, 38, 39, 40, 63] [(58, .slice (some ⟨b36, o36, none⟩) na ca)] ?_
        refine od_ ?_
        refine tk (m := 3) [7] [(7, .at b36 o36 iz)] [1, 2, 4, 9, 10, 12, 38, 39, 40] [(64, .pointer (some ⟨b36, o36 + iz * 3, none⟩))] ([(some ⟨b36, o36, none⟩ : Option Addr) = some ⟨b36, o36, none⟩, (iz : Nat) = ((iz : Nat) : Int), iz < na]) #[true, true, true, true, true, true, true, true, false, false, false] (al2 rfl (al2 rfl (al1 (by omega)))) ?_
        exact wk (hmx18 () trivial) [1, 2, 4, 9, 10, 12, 38, 39, 40, 64] [[_], [_], [_], [_], [_], [_], _, _, _] [0, 1, 2, 3, 4, 5, 6, 7, 8] rfl rfl
       ·
        refine mo0 1 [] [1, 2, 4, 9, 10, 12, 38, 39, 40, 57, 63] (fun γ220 => [(13, .pointer (some ⟨γ220 0, 0, none⟩))]) (fun γ220 L => bx (γ220 0) (#[.int .i64 0, .int .i64 0, .int .i64 0]) 32 :: L) (fun γ220 => ?_)
        refine od_ ?_
        exact wk (hmx17 γ220 trivial) [1, 2, 4, 9, 10, 12, 13, 38, 39, 40, 57, 63] [[_], [_], [_], [_], [_], [_], [_], _, _, _] [0, 1, 2, 3, 4, 5, 6, 7, 8, 9] rfl rfl
      refine any_cutX (V := (Nat → Nat)) (fun γ220 => True) 5 #[true, false, true, true, true, true, false, false, false, true, false] (fun γ220 => [(1, .int .i64 to), (2, .pointer (some ⟨γ1 0, 0, none⟩)), (4, .pointer (some ⟨γ1 1, 0, none⟩)), (9, .pointer (some ⟨γ16 0, 0, none⟩)), (10, .slice po no co), (12, .pointer (some ⟨γ27 0, 0, none⟩)), (13, .pointer (some ⟨γ220 0, 0, none⟩)), (38, .slice (some ⟨g24, 0, none⟩) k12 d12), (39, .int .i64 (k12 : Nat)), (40, .int .i64 (j : Nat)), (57, .pointer (some ⟨γ1 0, 2, none⟩)), (59, .agg #[.int .i64 now, .slice p n cap, .slice (some ⟨b36, o36, none⟩) na ca]), (62, .int .i64 (x26.id + 1))]) (fun γ220 => bx (γ220 0) (#[.int .i64 0, .int .i64 0, .int .i64 0]) 32 :: bx (γ27 0) (#[.int .i64 x26.id, .int .i64 x26.due]) 42 :: bx (γ16 0) (#[.int .i64 to, .slice pt nt ct, .slice pr nr cr]) 27 :: bx (γ13 0) (#[.int .i64 to, .slice q12 m12 c12]) 24 :: bx (γ1 1) (#[.int .i64 0, .slice none 0 0, .slice none 0 0]) 27 :: bx (γ1 0) (#[.int .i64 now, .slice p n cap, .slice (some ⟨b36, o36, none⟩) na ca]) 27 :: bx g24 cs24 42 :: (Yt ++ (Yr ++ (Yo ++ [])))) ?_ (fun hmx14 => ?_)
      ·
       rintro γ220 _
       refine any_fork [1, 6] (by kernel_rfl) (by simp) (each_cons _ rfl ?_ (each_cons _ rfl ?_ (each_nil)))
       ·
        refine qo0 1 [(1, .go (owns 5 2 1))] [1, 2, 4, 9, 10, 12, 13, 38, 39, 40, 59, 62] [(58, .slice (some ⟨b36, o36, none⟩) na ca)] ?_
        refine od_ ?_
        exact wk (hmx16 γ220 trivial) [1, 2, 4, 9, 10, 12, 13, 38, 39, 40, 58, 59, 62] [[_], [_], [_], [_], [_], [_], [_], _, _, _] [0, 1, 2, 3, 4, 5, 6, 7, 8, 9] rfl rfl
       ·
        refine cD (.int .i64 (iz : Nat)) (fun args w => Tryz.call47 args w) (fun w hw => by have := rfind_t now p n cap ts (some ⟨b36, o36, none⟩) na ca rs (x26.id + 1) w (hts.kept hw.below) hn (by omega) (hrs.kept hw.below) hna (by omega); rw [hiz] at this; exact this) ?_
        refine od_ ?_
        exact wk (hmx17 γ220 trivial) [1, 2, 4, 9, 10, 12, 13, 38, 39, 40, 57, 63] [[_], [_], [_], [_], [_], [_], [_], _, _, _] [0, 1, 2, 3, 4, 5, 6, 7, 8, 9] rfl rfl
      refine any_cutX (V := (Nat → Nat)) (fun γ220 => True) 5 #[true, true, false, true, true, true, false, false, false, true, false] (fun γ220 => [(1, .int .i64 to), (2, .pointer (some ⟨γ1 0, 0, none⟩)), (4, .pointer (some ⟨γ1 1, 0, none⟩)), (9, .pointer (some ⟨γ16 0, 0, none⟩)), (10, .slice po no co), (12, .pointer (some ⟨γ27 0, 0, none⟩)), (13, .pointer (some ⟨γ220 0, 0, none⟩)), (38, .slice (some ⟨g24, 0, none⟩) k12 d12), (39, .int .i64 (k12 : Nat)), (40, .int .i64 (j : Nat)), (58, .slice (some ⟨b36, o36, none⟩) na ca), (62, .int .i64 (x26.id + 1))]) (fun γ220 => bx (γ220 0) (#[.int .i64 0, .int .i64 0, .int .i64 0]) 32 :: bx (γ27 0) (#[.int .i64 x26.id, .int .i64 x26.due]) 42 :: bx (γ16 0) (#[.int .i64 to, .slice pt nt ct, .slice pr nr cr]) 27 :: bx (γ13 0) (#[.int .i64 to, .slice q12 m12 c12]) 24 :: bx (γ1 1) (#[.int .i64 0, .slice none 0 0, .slice none 0 0]) 27 :: bx (γ1 0) (#[.int .i64 now, .slice p n cap, .slice (some ⟨b36, o36, none⟩) na ca]) 27 :: bx g24 cs24 42 :: (Yt ++ (Yr ++ (Yo ++ [])))) ?_ (fun hmx13 => ?_)
      ·
       rintro γ220 _
       refine a1 2 rfl ?_
       refine qo0 1 [(2, .go (owns 5 0 3))] [1, 2, 4, 9, 10, 12, 13, 38, 39, 40, 58, 62] [(59, .agg #[.int .i64 now, .slice p n cap, .slice (some ⟨b36, o36, none⟩) na ca])] ?_
       refine od_ ?_
       exact wk (hmx16 γ220 trivial) [1, 2, 4, 9, 10, 12, 13, 38, 39, 40, 58, 59, 62] [[_], [_], [_], [_], [_], [_], [_], _, _, _] [0, 1, 2, 3, 4, 5, 6, 7, 8, 9] rfl rfl
      refine any_cutX (V := Unit) (fun _ => True) 5 #[true, true, true, true, true, true, false, false, false, false, false] (fun _ => [(1, .int .i64 to), (2, .pointer (some ⟨γ1 0, 0, none⟩)), (4, .pointer (some ⟨γ1 1, 0, none⟩)), (9, .pointer (some ⟨γ16 0, 0, none⟩)), (10, .slice po no co), (12, .pointer (some ⟨γ27 0, 0, none⟩)), (38, .slice (some ⟨g24, 0, none⟩) k12 d12), (39, .int .i64 (k12 : Nat)), (40, .int .i64 (j : Nat)), (58, .slice (some ⟨b36, o36, none⟩) na ca), (59, .agg #[.int .i64 now, .slice p n cap, .slice (some ⟨b36, o36, none⟩) na ca]), (62, .int .i64 (x26.id + 1))]) (fun _ => bx (γ27 0) (#[.int .i64 x26.id, .int .i64 x26.due]) 42 :: bx (γ16 0) (#[.int .i64 to, .slice pt nt ct, .slice pr nr cr]) 27 :: bx (γ13 0) (#[.int .i64 to, .slice q12 m12 c12]) 24 :: bx (γ1 1) (#[.int .i64 0, .slice none 0 0, .slice none 0 0]) 27 :: bx (γ1 0) (#[.int .i64 now, .slice p n cap, .slice (some ⟨b36, o36, none⟩) na ca]) 27 :: bx g24 cs24 42 :: (Yt ++ (Yr ++ (Yo ++ [])))) ?_ (fun hmx12 => ?_)
      ·
       rintro _ _
       refine any_fork [6, 9] (by kernel_rfl) (by simp) (each_cons _ rfl ?_ (each_cons _ rfl ?_ (each_nil)))
       ·
        refine cD (.int .i64 (iz : Nat)) (fun args w => Tryz.call47 args w) (fun w hw => by have := rfind_t now p n cap ts (some ⟨b36, o36, none⟩) na ca rs (x26.id + 1) w (hts.kept hw.below) hn (by omega) (hrs.kept hw.below) hna (by omega); rw [hiz] at this; exact this) ?_
        refine od_ ?_
        refine tk (m := 3) [7] [(7, .at b36 o36 iz)] [1, 2, 4, 9, 10, 12, 38, 39, 40] [(64, .pointer (some ⟨b36, o36 + iz * 3, none⟩))] ([(some ⟨b36, o36, none⟩ : Option Addr) = some ⟨b36, o36, none⟩, (iz : Nat) = ((iz : Nat) : Int), iz < na]) #[true, true, true, true, true, true, true, true, false, false, false] (al2 rfl (al2 rfl (al1 (by omega)))) ?_
        exact wk (hmx18 () trivial) [1, 2, 4, 9, 10, 12, 38, 39, 40, 64] [[_], [_], [_], [_], [_], [_], _, _, _] [0, 1, 2, 3, 4, 5, 6, 7, 8] rfl rfl
       ·
        refine mo0 1 [] [1, 2, 4, 9, 10, 12, 38, 39, 40, 58, 59, 62] (fun γ220 => [(13, .pointer (some ⟨γ220 0, 0, none⟩))]) (fun γ220 L => bx (γ220 0) (#[.int .i64 0, .int .i64 0, .int .i64 0]) 32 :: L) (fun γ220 => ?_)
        refine od_ ?_
        exact wk (hmx16 γ220 trivial) [1, 2, 4, 9, 10, 12, 13, 38, 39, 40, 58, 59, 62] [[_], [_], [_], [_], [_], [_], [_], _, _, _] [0, 1, 2, 3, 4, 5, 6, 7, 8, 9] rfl rfl
      refine any_cutX (V := (Nat → Nat)) (fun γ220 => True) 6 #[true, true, true, true, false, false, false, false, false, true, false] (fun γ220 => [(1, .int .i64 to), (2, .pointer (some ⟨γ1 0, 0, none⟩)), (4, .pointer (some ⟨γ1 1, 0, none⟩)), (9, .pointer (some ⟨γ16 0, 0, none⟩)), (10, .slice po no co), (12, .pointer (some ⟨γ27 0, 0, none⟩)), (13, .pointer (some ⟨γ220 0, 0, none⟩)), (38, .slice (some ⟨g24, 0, none⟩) k12 d12), (39, .int .i64 (k12 : Nat)), (40, .int .i64 (j : Nat)), (58, .slice (some ⟨b36, o36, none⟩) na ca), (59, .agg #[.int .i64 now, .slice p n cap, .slice (some ⟨b36, o36, none⟩) na ca]), (60, .pointer (some ⟨γ27 0, 0, none⟩))]) (fun γ220 => bx (γ220 0) (#[.int .i64 0, .int .i64 0, .int .i64 0]) 32 :: bx (γ27 0) (#[.int .i64 x26.id, .int .i64 x26.due]) 42 :: bx (γ16 0) (#[.int .i64 to, .slice pt nt ct, .slice pr nr cr]) 27 :: bx (γ13 0) (#[.int .i64 to, .slice q12 m12 c12]) 24 :: bx (γ1 1) (#[.int .i64 0, .slice none 0 0, .slice none 0 0]) 27 :: bx (γ1 0) (#[.int .i64 now, .slice p n cap, .slice (some ⟨b36, o36, none⟩) na ca]) 27 :: bx g24 cs24 42 :: (Yt ++ (Yr ++ (Yo ++ [])))) ?_ (fun hmx11 => ?_)
      ·
       rintro γ220 _
       refine a1 4 rfl ?_
       refine qo0 1 [(4, .go (owns 1 0 1))] [1, 2, 4, 9, 10, 12, 13, 38, 39, 40, 58, 59] [(61, .int .i64 x26.id)] ?_
       refine od_ ?_
       refine tk (m := 4) [5] [(5, .fit)] [1, 2, 4, 9, 10, 12, 13, 38, 39, 40, 58, 59] [(62, .int .i64 (x26.id + 1))] ([Fit .i64 (x26.id + 1)]) #[true, true, true, true, true, true, false, false, false, true, false] (al1 (fit64 (by omega) (by omega))) ?_
       exact wk (hmx16 γ220 trivial) [1, 2, 4, 9, 10, 12, 13, 38, 39, 40, 58, 59, 62] [[_], [_], [_], [_], [_], [_], [_], _, _, _] [0, 1, 2, 3, 4, 5, 6, 7, 8, 9] rfl rfl
      refine any_cutX (V := (Nat → Nat)) (fun γ220 => True) 6 #[true, false, false, true, true, true, false, false, false, true, false] (fun γ220 => [(1, .int .i64 to), (2, .pointer (some ⟨γ1 0, 0, none⟩)), (4, .pointer (some ⟨γ1 1, 0, none⟩)), (9, .pointer (some ⟨γ16 0, 0, none⟩)), (10, .slice po no co), (12, .pointer (some ⟨γ27 0, 0, none⟩)), (13, .pointer (some ⟨γ220 0, 0, none⟩)), (38, .slice (some ⟨g24, 0, none⟩) k12 d12), (39, .int .i64 (k12 : Nat)), (40, .int .i64 (j : Nat)), (57, .pointer (some ⟨γ1 0, 2, none⟩)), (62, .int .i64 (x26.id + 1))]) (fun γ220 => bx (γ220 0) (#[.int .i64 0, .int .i64 0, .int .i64 0]) 32 :: bx (γ27 0) (#[.int .i64 x26.id, .int .i64 x26.due]) 42 :: bx (γ16 0) (#[.int .i64 to, .slice pt nt ct, .slice pr nr cr]) 27 :: bx (γ13 0) (#[.int .i64 to, .slice q12 m12 c12]) 24 :: bx (γ1 1) (#[.int .i64 0, .slice none 0 0, .slice none 0 0]) 27 :: bx (γ1 0) (#[.int .i64 now, .slice p n cap, .slice (some ⟨b36, o36, none⟩) na ca]) 27 :: bx g24 cs24 42 :: (Yt ++ (Yr ++ (Yo ++ [])))) ?_ (fun hmx10 => ?_)
      ·
       rintro γ220 _
       refine any_fork [1, 2] (by kernel_rfl) (by simp) (each_cons _ rfl ?_ (each_cons _ rfl ?_ (each_nil)))
       ·
        refine qo0 1 [(1, .go (owns 5 2 1))] [1, 2, 4, 9, 10, 12, 13, 38, 39, 40, 62] [(58, .slice (some ⟨b36, o36, none⟩) na ca)] ?_
        refine od_ ?_
        exact wk (hmx13 γ220 trivial) [1, 2, 4, 9, 10, 12, 13, 38, 39, 40, 58, 62] [[_], [_], [_], [_], [_], [_], [_], _, _, _] [0, 1, 2, 3, 4, 5, 6, 7, 8, 9] rfl rfl
       ·
        refine qo0 1 [(2, .go (owns 5 0 3))] [1, 2, 4, 9, 10, 12, 13, 38, 39, 40, 57, 62] [(59, .agg #[.int .i64 now, .slice p n cap, .slice (some ⟨b36, o36, none⟩) na ca])] ?_
        refine od_ ?_
        exact wk (hmx14 γ220 trivial) [1, 2, 4, 9, 10, 12, 13, 38, 39, 40, 57, 59, 62] [[_], [_], [_], [_], [_], [_], [_], _, _, _] [0, 1, 2, 3, 4, 5, 6, 7, 8, 9] rfl rfl
      refine any_cutX (V := Unit) (fun _ => True) 6 #[true, false, true, true, true, true, false, false, false, false, false] (fun _ => [(1, .int .i64 to), (2, .pointer (some ⟨γ1 0, 0, none⟩)), (4, .pointer (some ⟨γ1 1, 0, none⟩)), (9, .pointer (some ⟨γ16 0, 0, none⟩)), (10, .slice po no co), (12, .pointer (some ⟨γ27 0, 0, none⟩)), (38, .slice (some ⟨g24, 0, none⟩) k12 d12), (39, .int .i64 (k12 : Nat)), (40, .int .i64 (j : Nat)), (57, .pointer (some ⟨γ1 0, 2, none⟩)), (59, .agg #[.int .i64 now, .slice p n cap, .slice (some ⟨b36, o36, none⟩) na ca]), (62, .int .i64 (x26.id + 1))]) (fun _ => bx (γ27 0) (#[.int .i64 x26.id, .int .i64 x26.due]) 42 :: bx (γ16 0) (#[.int .i64 to, .slice pt nt ct, .slice pr nr cr]) 27 :: bx (γ13 0) (#[.int .i64 to, .slice q12 m12 c12]) 24 :: bx (γ1 1) (#[.int .i64 0, .slice none 0 0, .slice none 0 0]) 27 :: bx (γ1 0) (#[.int .i64 now, .slice p n cap, .slice (some ⟨b36, o36, none⟩) na ca]) 27 :: bx g24 cs24 42 :: (Yt ++ (Yr ++ (Yo ++ [])))) ?_ (fun hmx9 => ?_)
      ·
       rintro _ _
       refine any_fork [1, 6, 9] (by kernel_rfl) (by simp) (each_cons _ rfl ?_ (each_cons _ rfl ?_ (each_cons _ rfl ?_ (each_nil))))
       ·
        refine qo0 1 [(1, .go (owns 4 2 1))] [1, 2, 4, 9, 10, 12, 38, 39, 40, 59, 62] [(58, .slice (some ⟨b36, o36, none⟩) na ca)] ?_
        refine od_ ?_
        exact wk (hmx12 () trivial) [1, 2, 4, 9, 10, 12, 38, 39, 40, 58, 59, 62] [[_], [_], [_], [_], [_], [_], _, _, _] [0, 1, 2, 3, 4, 5, 6, 7, 8] rfl rfl
       ·
        refine cD (.int .i64 (iz : Nat)) (fun args w => Tryz.call47 args w) (fun w hw => by have := rfind_t now p n cap ts (some ⟨b36, o36, none⟩) na ca rs (x26.id + 1) w (hts.kept hw.below) hn (by omega) (hrs.kept hw.below) hna (by omega); rw [hiz] at this; exact this) ?_
        refine od_ ?_
        exact wk (hmx15 () trivial) [1, 2, 4, 9, 10, 12, 38, 39, 40, 57, 63] [[_], [_], [_], [_], [_], [_], _, _, _] [0, 1, 2, 3, 4, 5, 6, 7, 8] rfl rfl
       ·
        refine mo0 1 [] [1, 2, 4, 9, 10, 12, 38, 39, 40, 57, 59, 62] (fun γ220 => [(13, .pointer (some ⟨γ220 0, 0, none⟩))]) (fun γ220 L => bx (γ220 0) (#[.int .i64 0, .int .i64 0, .int .i64 0]) 32 :: L) (fun γ220 => ?_)
        refine od_ ?_
        exact wk (hmx14 γ220 trivial) [1, 2, 4, 9, 10, 12, 13, 38, 39, 40, 57, 59, 62] [[_], [_], [_], [_], [_], [_], [_], _, _, _] [0, 1, 2, 3, 4, 5, 6, 7, 8, 9] rfl rfl
      refine any_cutX (V := Unit) (fun _ => True) 6 #[true, true, false, true, true, true, false, false, false, false, false] (fun _ => [(1, .int .i64 to), (2, .pointer (some ⟨γ1 0, 0, none⟩)), (4, .pointer (some ⟨γ1 1, 0, none⟩)), (9, .pointer (some ⟨γ16 0, 0, none⟩)), (10, .slice po no co), (12, .pointer (some ⟨γ27 0, 0, none⟩)), (38, .slice (some ⟨g24, 0, none⟩) k12 d12), (39, .int .i64 (k12 : Nat)), (40, .int .i64 (j : Nat)), (58, .slice (some ⟨b36, o36, none⟩) na ca), (62, .int .i64 (x26.id + 1))]) (fun _ => bx (γ27 0) (#[.int .i64 x26.id, .int .i64 x26.due]) 42 :: bx (γ16 0) (#[.int .i64 to, .slice pt nt ct, .slice pr nr cr]) 27 :: bx (γ13 0) (#[.int .i64 to, .slice q12 m12 c12]) 24 :: bx (γ1 1) (#[.int .i64 0, .slice none 0 0, .slice none 0 0]) 27 :: bx (γ1 0) (#[.int .i64 now, .slice p n cap, .slice (some ⟨b36, o36, none⟩) na ca]) 27 :: bx g24 cs24 42 :: (Yt ++ (Yr ++ (Yo ++ [])))) ?_ (fun hmx8 => ?_)
      ·
       rintro _ _
       refine any_fork [2, 9] (by kernel_rfl) (by simp) (each_cons _ rfl ?_ (each_cons _ rfl ?_ (each_nil)))
       ·
        refine qo0 1 [(2, .go (owns 4 0 3))] [1, 2, 4, 9, 10, 12, 38, 39, 40, 58, 62] [(59, .agg #[.int .i64 now, .slice p n cap, .slice (some ⟨b36, o36, none⟩) na ca])] ?_
        refine od_ ?_
        exact wk (hmx12 () trivial) [1, 2, 4, 9, 10, 12, 38, 39, 40, 58, 59, 62] [[_], [_], [_], [_], [_], [_], _, _, _] [0, 1, 2, 3, 4, 5, 6, 7, 8] rfl rfl
       ·
        refine mo0 1 [] [1, 2, 4, 9, 10, 12, 38, 39, 40, 58, 62] (fun γ220 => [(13, .pointer (some ⟨γ220 0, 0, none⟩))]) (fun γ220 L => bx (γ220 0) (#[.int .i64 0, .int .i64 0, .int .i64 0]) 32 :: L) (fun γ220 => ?_)
        refine od_ ?_
        exact wk (hmx13 γ220 trivial) [1, 2, 4, 9, 10, 12, 13, 38, 39, 40, 58, 62] [[_], [_], [_], [_], [_], [_], [_], _, _, _] [0, 1, 2, 3, 4, 5, 6, 7, 8, 9] rfl rfl
      refine any_cutX (V := (Nat → Nat)) (fun γ220 => True) 7 #[true, false, true, true, false, false, false, false, false, true, false] (fun γ220 => [(1, .int .i64 to), (2, .pointer (some ⟨γ1 0, 0, none⟩)), (4, .pointer (some ⟨γ1 1, 0, none⟩)), (9, .pointer (some ⟨γ16 0, 0, none⟩)), (10, .slice po no co), (12, .pointer (some ⟨γ27 0, 0, none⟩)), (13, .pointer (some ⟨γ220 0, 0, none⟩)), (38, .slice (some ⟨g24, 0, none⟩) k12 d12), (39, .int .i64 (k12 : Nat)), (40, .int .i64 (j : Nat)), (57, .pointer (some ⟨γ1 0, 2, none⟩)), (59, .agg #[.int .i64 now, .slice p n cap, .slice (some ⟨b36, o36, none⟩) na ca]), (60, .pointer (some ⟨γ27 0, 0, none⟩))]) (fun γ220 => bx (γ220 0) (#[.int .i64 0, .int .i64 0, .int .i64 0]) 32 :: bx (γ27 0) (#[.int .i64 x26.id, .int .i64 x26.due]) 42 :: bx (γ16 0) (#[.int .i64 to, .slice pt nt ct, .slice pr nr cr]) 27 :: bx (γ13 0) (#[.int .i64 to, .slice q12 m12 c12]) 24 :: bx (γ1 1) (#[.int .i64 0, .slice none 0 0, .slice none 0 0]) 27 :: bx (γ1 0) (#[.int .i64 now, .slice p n cap, .slice (some ⟨b36, o36, none⟩) na ca]) 27 :: bx g24 cs24 42 :: (Yt ++ (Yr ++ (Yo ++ [])))) ?_ (fun hmx7 => ?_)
      ·
       rintro γ220 _
       refine any_fork [1, 4] (by kernel_rfl) (by simp) (each_cons _ rfl ?_ (each_cons _ rfl ?_ (each_nil)))
       ·
        refine qo0 1 [(1, .go (owns 5 2 1))] [1, 2, 4, 9, 10, 12, 13, 38, 39, 40, 59, 60] [(58, .slice (some ⟨b36, o36, none⟩) na ca)] ?_
        refine od_ ?_
        exact wk (hmx11 γ220 trivial) [1, 2, 4, 9, 10, 12, 13, 38, 39, 40, 58, 59, 60] [[_], [_], [_], [_], [_], [_], [_], _, _, _] [0, 1, 2, 3, 4, 5, 6, 7, 8, 9] rfl rfl
       ·
        refine qo0 1 [(4, .go (owns 1 0 1))] [1, 2, 4, 9, 10, 12, 13, 38, 39, 40, 57, 59] [(61, .int .i64 x26.id)] ?_
        refine od_ ?_
        refine tk (m := 5) [5] [(5, .fit)] [1, 2, 4, 9, 10, 12, 13, 38, 39, 40, 57, 59] [(62, .int .i64 (x26.id + 1))] ([Fit .i64 (x26.id + 1)]) #[true, false, true, true, true, true, false, false, false, true, false] (al1 (fit64 (by omega) (by omega))) ?_
        exact wk (hmx14 γ220 trivial) [1, 2, 4, 9, 10, 12, 13, 38, 39, 40, 57, 59, 62] [[_], [_], [_], [_], [_], [_], [_], _, _, _] [0, 1, 2, 3, 4, 5, 6, 7, 8, 9] rfl rfl
      refine any_cutX (V := (Nat → Nat)) (fun γ220 => True) 7 #[true, true, false, true, false, false, false, false, false, true, false] (fun γ220 => [(1, .int .i64 to), (2, .pointer (some ⟨γ1 0, 0, none⟩)), (4, .pointer (some ⟨γ1 1, 0, none⟩)), (9, .pointer (some ⟨γ16 0, 0, none⟩)), (10, .slice po no co), (12, .pointer (some ⟨γ27 0, 0, none⟩)), (13, .pointer (some ⟨γ220 0, 0, none⟩)), (38, .slice (some ⟨g24, 0, none⟩) k12 d12), (39, .int .i64 (k12 : Nat)), (40, .int .i64 (j : Nat)), (58, .slice (some ⟨b36, o36, none⟩) na ca), (60, .pointer (some ⟨γ27 0, 0, none⟩))]) (fun γ220 => bx (γ220 0) (#[.int .i64 0, .int .i64 0, .int .i64 0]) 32 :: bx (γ27 0) (#[.int .i64 x26.id, .int .i64 x26.due]) 42 :: bx (γ16 0) (#[.int .i64 to, .slice pt nt ct, .slice pr nr cr]) 27 :: bx (γ13 0) (#[.int .i64 to, .slice q12 m12 c12]) 24 :: bx (γ1 1) (#[.int .i64 0, .slice none 0 0, .slice none 0 0]) 27 :: bx (γ1 0) (#[.int .i64 now, .slice p n cap, .slice (some ⟨b36, o36, none⟩) na ca]) 27 :: bx g24 cs24 42 :: (Yt ++ (Yr ++ (Yo ++ [])))) ?_ (fun hmx6 => ?_)
      ·
       rintro γ220 _
       refine any_fork [2, 4] (by kernel_rfl) (by simp) (each_cons _ rfl ?_ (each_cons _ rfl ?_ (each_nil)))
       ·
        refine qo0 1 [(2, .go (owns 5 0 3))] [1, 2, 4, 9, 10, 12, 13, 38, 39, 40, 58, 60] [(59, .agg #[.int .i64 now, .slice p n cap, .slice (some ⟨b36, o36, none⟩) na ca])] ?_
        refine od_ ?_
        exact wk (hmx11 γ220 trivial) [1, 2, 4, 9, 10, 12, 13, 38, 39, 40, 58, 59, 60] [[_], [_], [_], [_], [_], [_], [_], _, _, _] [0, 1, 2, 3, 4, 5, 6, 7, 8, 9] rfl rfl
       ·
        refine qo0 1 [(4, .go (owns 1 0 1))] [1, 2, 4, 9, 10, 12, 13, 38, 39, 40, 58] [(61, .int .i64 x26.id)] ?_
        refine od_ ?_
        refine tk (m := 5) [5] [(5, .fit)] [1, 2, 4, 9, 10, 12, 13, 38, 39, 40, 58] [(62, .int .i64 (x26.id + 1))] ([Fit .i64 (x26.id + 1)]) #[true, true, false, true, true, true, false, false, false, true, false] (al1 (fit64 (by omega) (by omega))) ?_
        exact wk (hmx13 γ220 trivial) [1, 2, 4, 9, 10, 12, 13, 38, 39, 40, 58, 62] [[_], [_], [_], [_], [_], [_], [_], _, _, _] [0, 1, 2, 3, 4, 5, 6, 7, 8, 9] rfl rfl
      refine any_cutX (V := Unit) (fun _ => True) 7 #[true, true, true, true, false, false, false, false, false, false, false] (fun _ => [(1, .int .i64 to), (2, .pointer (some ⟨γ1 0, 0, none⟩)), (4, .pointer (some ⟨γ1 1, 0, none⟩)), (9, .pointer (some ⟨γ16 0, 0, none⟩)), (10, .slice po no co), (12, .pointer (some ⟨γ27 0, 0, none⟩)), (38, .slice (some ⟨g24, 0, none⟩) k12 d12), (39, .int .i64 (k12 : Nat)), (40, .int .i64 (j : Nat)), (58, .slice (some ⟨b36, o36, none⟩) na ca), (59, .agg #[.int .i64 now, .slice p n cap, .slice (some ⟨b36, o36, none⟩) na ca]), (60, .pointer (some ⟨γ27 0, 0, none⟩))]) (fun _ => bx (γ27 0) (#[.int .i64 x26.id, .int .i64 x26.due]) 42 :: bx (γ16 0) (#[.int .i64 to, .slice pt nt ct, .slice pr nr cr]) 27 :: bx (γ13 0) (#[.int .i64 to, .slice q12 m12 c12]) 24 :: bx (γ1 1) (#[.int .i64 0, .slice none 0 0, .slice none 0 0]) 27 :: bx (γ1 0) (#[.int .i64 now, .slice p n cap, .slice (some ⟨b36, o36, none⟩) na ca]) 27 :: bx g24 cs24 42 :: (Yt ++ (Yr ++ (Yo ++ [])))) ?_ (fun hmx5 => ?_)
      ·
       rintro _ _
       refine any_fork [4, 9] (by kernel_rfl) (by simp) (each_cons _ rfl ?_ (each_cons _ rfl ?_ (each_nil)))
       ·
        refine qo0 1 [(4, .go (owns 0 0 1))] [1, 2, 4, 9, 10, 12, 38, 39, 40, 58, 59] [(61, .int .i64 x26.id)] ?_
        refine od_ ?_
        refine tk (m := 5) [5] [(5, .fit)] [1, 2, 4, 9, 10, 12, 38, 39, 40, 58, 59] [(62, .int .i64 (x26.id + 1))] ([Fit .i64 (x26.id + 1)]) #[true, true, true, true, true, true, false, false, false, false, false] (al1 (fit64 (by omega) (by omega))) ?_
        exact wk (hmx12 () trivial) [1, 2, 4, 9, 10, 12, 38, 39, 40, 58, 59, 62] [[_], [_], [_], [_], [_], [_], _, _, _] [0, 1, 2, 3, 4, 5, 6, 7, 8] rfl rfl
       ·
        refine mo0 1 [] [1, 2, 4, 9, 10, 12, 38, 39, 40, 58, 59, 60] (fun γ220 => [(13, .pointer (some ⟨γ220 0, 0, none⟩))]) (fun γ220 L => bx (γ220 0) (#[.int .i64 0, .int .i64 0, .int .i64 0]) 32 :: L) (fun γ220 => ?_)
        refine od_ ?_
        exact wk (hmx11 γ220 trivial) [1, 2, 4, 9, 10, 12, 13, 38, 39, 40, 58, 59, 60] [[_], [_], [_], [_], [_], [_], [_], _, _, _] [0, 1, 2, 3, 4, 5, 6, 7, 8, 9] rfl rfl
      refine any_cutX (V := Unit) (fun _ => True) 7 #[true, false, false, true, true, true, false, false, false, false, false] (fun _ => [(1, .int .i64 to), (2, .pointer (some ⟨γ1 0, 0, none⟩)), (4, .pointer (some ⟨γ1 1, 0, none⟩)), (9, .pointer (some ⟨γ16 0, 0, none⟩)), (10, .slice po no co), (12, .pointer (some ⟨γ27 0, 0, none⟩)), (38, .slice (some ⟨g24, 0, none⟩) k12 d12), (39, .int .i64 (k12 : Nat)), (40, .int .i64 (j : Nat)), (57, .pointer (some ⟨γ1 0, 2, none⟩)), (62, .int .i64 (x26.id + 1))]) (fun _ => bx (γ27 0) (#[.int .i64 x26.id, .int .i64 x26.due]) 42 :: bx (γ16 0) (#[.int .i64 to, .slice pt nt ct, .slice pr nr cr]) 27 :: bx (γ13 0) (#[.int .i64 to, .slice q12 m12 c12]) 24 :: bx (γ1 1) (#[.int .i64 0, .slice none 0 0, .slice none 0 0]) 27 :: bx (γ1 0) (#[.int .i64 now, .slice p n cap, .slice (some ⟨b36, o36, none⟩) na ca]) 27 :: bx g24 cs24 42 :: (Yt ++ (Yr ++ (Yo ++ [])))) ?_ (fun hmx4 => ?_)
      ·
       rintro _ _
       refine any_fork [1, 2, 9] (by kernel_rfl) (by simp) (each_cons _ rfl ?_ (each_cons _ rfl ?_ (each_cons _ rfl ?_ (each_nil))))
       ·
        refine qo0 1 [(1, .go (owns 4 2 1))] [1, 2, 4, 9, 10, 12, 38, 39, 40, 62] [(58, .slice (some ⟨b36, o36, none⟩) na ca)] ?_
        refine od_ ?_
        exact wk (hmx8 () trivial) [1, 2, 4, 9, 10, 12, 38, 39, 40, 58, 62] [[_], [_], [_], [_], [_], [_], _, _, _] [0, 1, 2, 3, 4, 5, 6, 7, 8] rfl rfl
       ·
        refine qo0 1 [(2, .go (owns 4 0 3))] [1, 2, 4, 9, 10, 12, 38, 39, 40, 57, 62] [(59, .agg #[.int .i64 now, .slice p n cap, .slice (some ⟨b36, o36, none⟩) na ca])] ?_
        refine od_ ?_
        exact wk (hmx9 () trivial) [1, 2, 4, 9, 10, 12, 38, 39, 40, 57, 59, 62] [[_], [_], [_], [_], [_], [_], _, _, _] [0, 1, 2, 3, 4, 5, 6, 7, 8] rfl rfl
       ·
        refine mo0 1 [] [1, 2, 4, 9, 10, 12, 38, 39, 40, 57, 62] (fun γ220 => [(13, .pointer (some ⟨γ220 0, 0, none⟩))]) (fun γ220 L => bx (γ220 0) (#[.int .i64 0, .int .i64 0, .int .i64 0]) 32 :: L) (fun γ220 => ?_)
        refine od_ ?_
        exact wk (hmx10 γ220 trivial) [1, 2, 4, 9, 10, 12, 13, 38, 39, 40, 57, 62] [[_], [_], [_], [_], [_], [_], [_], _, _, _] [0, 1, 2, 3, 4, 5, 6, 7, 8, 9] rfl rfl
      refine any_cutX (V := (Nat → Nat)) (fun γ220 => True) 8 #[true, false, false, true, false, false, false, false, false, true, false] (fun γ220 => [(1, .int .i64 to), (2, .pointer (some ⟨γ1 0, 0, none⟩)), (4, .pointer (some ⟨γ1 1, 0, none⟩)), (9, .pointer (some ⟨γ16 0, 0, none⟩)), (10, .slice po no co), (12, .pointer (some ⟨γ27 0, 0, none⟩)), (13, .pointer (some ⟨γ220 0, 0, none⟩)), (38, .slice (some ⟨g24, 0, none⟩) k12 d12), (39, .int .i64 (k12 : Nat)), (40, .int .i64 (j : Nat)), (57, .pointer (some ⟨γ1 0, 2, none⟩)), (60, .pointer (some ⟨γ27 0, 0, none⟩))]) (fun γ220 => bx (γ220 0) (#[.int .i64 0, .int .i64 0, .int .i64 0]) 32 :: bx (γ27 0) (#[.int .i64 x26.id, .int .i64 x26.due]) 42 :: bx (γ16 0) (#[.int .i64 to, .slice pt nt ct, .slice pr nr cr]) 27 :: bx (γ13 0) (#[.int .i64 to, .slice q12 m12 c12]) 24 :: bx (γ1 1) (#[.int .i64 0, .slice none 0 0, .slice none 0 0]) 27 :: bx (γ1 0) (#[.int .i64 now, .slice p n cap, .slice (some ⟨b36, o36, none⟩) na ca]) 27 :: bx g24 cs24 42 :: (Yt ++ (Yr ++ (Yo ++ [])))) ?_ (fun hmx3 => ?_)
      ·
       rintro γ220 _
       refine any_fork [1, 2, 4] (by kernel_rfl) (by simp) (each_cons _ rfl ?_ (each_cons _ rfl ?_ (each_cons _ rfl ?_ (each_nil))))
       ·
        refine qo0 1 [(1, .go (owns 5 2 1))] [1, 2, 4, 9, 10, 12, 13, 38, 39, 40, 60] [(58, .slice (some ⟨b36, o36, none⟩) na ca)] ?_
        refine od_ ?_
        exact wk (hmx6 γ220 trivial) [1, 2, 4, 9, 10, 12, 13, 38, 39, 40, 58, 60] [[_], [_], [_], [_], [_], [_], [_], _, _, _] [0, 1, 2, 3, 4, 5, 6, 7, 8, 9] rfl rfl
       ·
        refine qo0 1 [(2, .go (owns 5 0 3))] [1, 2, 4, 9, 10, 12, 13, 38, 39, 40, 57, 60] [(59, .agg #[.int .i64 now, .slice p n cap, .slice (some ⟨b36, o36, none⟩) na ca])] ?_
        refine od_ ?_
        exact wk (hmx7 γ220 trivial) [1, 2, 4, 9, 10, 12, 13, 38, 39, 40, 57, 59, 60] [[_], [_], [_], [_], [_], [_], [_], _, _, _] [0, 1, 2, 3, 4, 5, 6, 7, 8, 9] rfl rfl
       ·
        refine qo0 1 [(4, .go (owns 1 0 1))] [1, 2, 4, 9, 10, 12, 13, 38, 39, 40, 57] [(61, .int .i64 x26.id)] ?_
        refine od_ ?_
        refine tk (m := 6) [5] [(5, .fit)] [1, 2, 4, 9, 10, 12, 13, 38, 39, 40, 57] [(62, .int .i64 (x26.id + 1))] ([Fit .i64 (x26.id + 1)]) #[true, false, false, true, true, true, false, false, false, true, false] (al1 (fit64 (by omega) (by omega))) ?_
        exact wk (hmx10 γ220 trivial) [1, 2, 4, 9, 10, 12, 13, 38, 39, 40, 57, 62] [[_], [_], [_], [_], [_], [_], [_], _, _, _] [0, 1, 2, 3, 4, 5, 6, 7, 8, 9] rfl rfl
      refine any_cutX (V := Unit) (fun _ => True) 8 #[true, false, true, true, false, false, false, false, false, false, false] (fun _ => [(1, .int .i64 to), (2, .pointer (some ⟨γ1 0, 0, none⟩)), (4, .pointer (some ⟨γ1 1, 0, none⟩)), (9, .pointer (some ⟨γ16 0, 0, none⟩)), (10, .slice po no co), (12, .pointer (some ⟨γ27 0, 0, none⟩)), (38, .slice (some ⟨g24, 0, none⟩) k12 d12), (39, .int .i64 (k12 : Nat)), (40, .int .i64 (j : Nat)), (57, .pointer (some ⟨γ1 0, 2, none⟩)), (59, .agg #[.int .i64 now, .slice p n cap, .slice (some ⟨b36, o36, none⟩) na ca]), (60, .pointer (some ⟨γ27 0, 0, none⟩))]) (fun _ => bx (γ27 0) (#[.int .i64 x26.id, .int .i64 x26.due]) 42 :: bx (γ16 0) (#[.int .i64 to, .slice pt nt ct, .slice pr nr cr]) 27 :: bx (γ13 0) (#[.int .i64 to, .slice q12 m12 c12]) 24 :: bx (γ1 1) (#[.int .i64 0, .slice none 0 0, .slice none 0 0]) 27 :: bx (γ1 0) (#[.int .i64 now, .slice p n cap, .slice (some ⟨b36, o36, none⟩) na ca]) 27 :: bx g24 cs24 42 :: (Yt ++ (Yr ++ (Yo ++ [])))) ?_ (fun hmx2 => ?_)
      ·
       rintro _ _
       refine any_fork [1, 4, 9] (by kernel_rfl) (by simp) (each_cons _ rfl ?_ (each_cons _ rfl ?_ (each_cons _ rfl ?_ (each_nil))))
       ·
        refine qo0 1 [(1, .go (owns 4 2 1))] [1, 2, 4, 9, 10, 12, 38, 39, 40, 59, 60] [(58, .slice (some ⟨b36, o36, none⟩) na ca)] ?_
        refine od_ ?_
        exact wk (hmx5 () trivial) [1, 2, 4, 9, 10, 12, 38, 39, 40, 58, 59, 60] [[_], [_], [_], [_], [_], [_], _, _, _] [0, 1, 2, 3, 4, 5, 6, 7, 8] rfl rfl
       ·
        refine qo0 1 [(4, .go (owns 0 0 1))] [1, 2, 4, 9, 10, 12, 38, 39, 40, 57, 59] [(61, .int .i64 x26.id)] ?_
        refine od_ ?_
        refine tk (m := 6) [5] [(5, .fit)] [1, 2, 4, 9, 10, 12, 38, 39, 40, 57, 59] [(62, .int .i64 (x26.id + 1))] ([Fit .i64 (x26.id + 1)]) #[true, false, true, true, true, true, false, false, false, false, false] (al1 (fit64 (by omega) (by omega))) ?_
        exact wk (hmx9 () trivial) [1, 2, 4, 9, 10, 12, 38, 39, 40, 57, 59, 62] [[_], [_], [_], [_], [_], [_], _, _, _] [0, 1, 2, 3, 4, 5, 6, 7, 8] rfl rfl
       ·
        refine mo0 1 [] [1, 2, 4, 9, 10, 12, 38, 39, 40, 57, 59, 60] (fun γ220 => [(13, .pointer (some ⟨γ220 0, 0, none⟩))]) (fun γ220 L => bx (γ220 0) (#[.int .i64 0, .int .i64 0, .int .i64 0]) 32 :: L) (fun γ220 => ?_)
        refine od_ ?_
        exact wk (hmx7 γ220 trivial) [1, 2, 4, 9, 10, 12, 13, 38, 39, 40, 57, 59, 60] [[_], [_], [_], [_], [_], [_], [_], _, _, _] [0, 1, 2, 3, 4, 5, 6, 7, 8, 9] rfl rfl
      refine any_cutX (V := Unit) (fun _ => True) 8 #[true, true, false, true, false, false, false, false, false, false, false] (fun _ => [(1, .int .i64 to), (2, .pointer (some ⟨γ1 0, 0, none⟩)), (4, .pointer (some ⟨γ1 1, 0, none⟩)), (9, .pointer (some ⟨γ16 0, 0, none⟩)), (10, .slice po no co), (12, .pointer (some ⟨γ27 0, 0, none⟩)), (38, .slice (some ⟨g24, 0, none⟩) k12 d12), (39, .int .i64 (k12 : Nat)), (40, .int .i64 (j : Nat)), (58, .slice (some ⟨b36, o36, none⟩) na ca), (60, .pointer (some ⟨γ27 0, 0, none⟩))]) (fun _ => bx (γ27 0) (#[.int .i64 x26.id, .int .i64 x26.due]) 42 :: bx (γ16 0) (#[.int .i64 to, .slice pt nt ct, .slice pr nr cr]) 27 :: bx (γ13 0) (#[.int .i64 to, .slice q12 m12 c12]) 24 :: bx (γ1 1) (#[.int .i64 0, .slice none 0 0, .slice none 0 0]) 27 :: bx (γ1 0) (#[.int .i64 now, .slice p n cap, .slice (some ⟨b36, o36, none⟩) na ca]) 27 :: bx g24 cs24 42 :: (Yt ++ (Yr ++ (Yo ++ [])))) ?_ (fun hmx1 => ?_)
      ·
       rintro _ _
       refine any_fork [2, 4, 9] (by kernel_rfl) (by simp) (each_cons _ rfl ?_ (each_cons _ rfl ?_ (each_cons _ rfl ?_ (each_nil))))
       ·
        refine qo0 1 [(2, .go (owns 4 0 3))] [1, 2, 4, 9, 10, 12, 38, 39, 40, 58, 60] [(59, .agg #[.int .i64 now, .slice p n cap, .slice (some ⟨b36, o36, none⟩) na ca])] ?_
        refine od_ ?_
        exact wk (hmx5 () trivial) [1, 2, 4, 9, 10, 12, 38, 39, 40, 58, 59, 60] [[_], [_], [_], [_], [_], [_], _, _, _] [0, 1, 2, 3, 4, 5, 6, 7, 8] rfl rfl
       ·
        refine qo0 1 [(4, .go (owns 0 0 1))] [1, 2, 4, 9, 10, 12, 38, 39, 40, 58] [(61, .int .i64 x26.id)] ?_
        refine od_ ?_
        refine tk (m := 6) [5] [(5, .fit)] [1, 2, 4, 9, 10, 12, 38, 39, 40, 58] [(62, .int .i64 (x26.id + 1))] ([Fit .i64 (x26.id + 1)]) #[true, true, false, true, true, true, false, false, false, false, false] (al1 (fit64 (by omega) (by omega))) ?_
        exact wk (hmx8 () trivial) [1, 2, 4, 9, 10, 12, 38, 39, 40, 58, 62] [[_], [_], [_], [_], [_], [_], _, _, _] [0, 1, 2, 3, 4, 5, 6, 7, 8] rfl rfl
       ·
        refine mo0 1 [] [1, 2, 4, 9, 10, 12, 38, 39, 40, 58, 60] (fun γ220 => [(13, .pointer (some ⟨γ220 0, 0, none⟩))]) (fun γ220 L => bx (γ220 0) (#[.int .i64 0, .int .i64 0, .int .i64 0]) 32 :: L) (fun γ220 => ?_)
        refine od_ ?_
        exact wk (hmx6 γ220 trivial) [1, 2, 4, 9, 10, 12, 13, 38, 39, 40, 58, 60] [[_], [_], [_], [_], [_], [_], [_], _, _, _] [0, 1, 2, 3, 4, 5, 6, 7, 8, 9] rfl rfl
      refine any_fork [1, 2, 4, 9] (by kernel_rfl) (by simp) (each_cons _ rfl ?_ (each_cons _ rfl ?_ (each_cons _ rfl ?_ (each_cons _ rfl ?_ (each_nil)))))
      ·
       refine qo0 1 [(1, .go (owns 4 2 1))] [1, 2, 4, 9, 10, 12, 38, 39, 40, 60] [(58, .slice (some ⟨b36, o36, none⟩) na ca)] ?_
       refine od_ ?_
       exact wk (hmx1 () trivial) [1, 2, 4, 9, 10, 12, 38, 39, 40, 58, 60] [[_], [_], [_], [_], [_], [_], _, _, _] [0, 1, 2, 3, 4, 5, 6, 7, 8] rfl rfl
      ·
       refine qo0 1 [(2, .go (owns 4 0 3))] [1, 2, 4, 9, 10, 12, 38, 39, 40, 57, 60] [(59, .agg #[.int .i64 now, .slice p n cap, .slice (some ⟨b36, o36, none⟩) na ca])] ?_
       refine od_ ?_
       exact wk (hmx2 () trivial) [1, 2, 4, 9, 10, 12, 38, 39, 40, 57, 59, 60] [[_], [_], [_], [_], [_], [_], _, _, _] [0, 1, 2, 3, 4, 5, 6, 7, 8] rfl rfl
      ·
       refine qo0 1 [(4, .go (owns 0 0 1))] [1, 2, 4, 9, 10, 12, 38, 39, 40, 57] [(61, .int .i64 x26.id)] ?_
       refine od_ ?_
       refine tk (m := 7) [5] [(5, .fit)] [1, 2, 4, 9, 10, 12, 38, 39, 40, 57] [(62, .int .i64 (x26.id + 1))] ([Fit .i64 (x26.id + 1)]) #[true, false, false, true, true, true, false, false, false, false, false] (al1 (fit64 (by omega) (by omega))) ?_
       exact wk (hmx4 () trivial) [1, 2, 4, 9, 10, 12, 38, 39, 40, 57, 62] [[_], [_], [_], [_], [_], [_], _, _, _] [0, 1, 2, 3, 4, 5, 6, 7, 8] rfl rfl
      ·
       refine mo0 1 [] [1, 2, 4, 9, 10, 12, 38, 39, 40, 57, 60] (fun γ220 => [(13, .pointer (some ⟨γ220 0, 0, none⟩))]) (fun γ220 L => bx (γ220 0) (#[.int .i64 0, .int .i64 0, .int .i64 0]) 32 :: L) (fun γ220 => ?_)
       refine od_ ?_
       exact wk (hmx3 γ220 trivial) [1, 2, 4, 9, 10, 12, 13, 38, 39, 40, 57, 60] [[_], [_], [_], [_], [_], [_], [_], _, _, _] [0, 1, 2, 3, 4, 5, 6, 7, 8, 9] rfl rfl
     rintro γ220 _
     refine any_nil (by kernel_rfl) ?_
     refine ds_ (sq_ (ma0 [(1, .go (owns 0 0 1)), (3, .go (owns 0 1 1)), (5, .go (owns 1 1 1)), (8, .go (owns 0 0 4))] [1, 2, 4, 9, 10, 12, 13, 38, 39, 40] (fun γ321 => [(14, .pointer (some ⟨γ321 0, 0, none⟩))]) (fun γ321 L => bx (γ321 0) (#[.int .i64 z.vcpu, .int .i64 z.port, .int .i64 x26.due, .int .i64 0]) 50 :: L) (fun γ321 => ds_ (sq_ (qa0 [] [1, 2, 4, 9, 10, 12, 13, 14, 38, 39, 40] [(15, .int .i64 0)] (ds_ (sq_ (sq_ ?_))))))))
     by_cases q324 : (z.every : Int) > (0 : Int)
     ·
      refine qa [(1, .go (owns 1 2 1)), (2, .yes)] [1, 2, 4, 9, 10, 12, 13, 14, 15, 38, 39, 40] [(75, .bool true)] ([(z.every : Int) > (0 : Int)]) (al1 q324) (ds_ (t_ (sq_ (ao_ (qo 6 [(2, .go (owns 2 1 1)), (3, .fit), (5, .go (owns 1 2 1))] [1, 2, 4, 9, 10, 12, 13, 14, 15, 38, 39, 40] [(79, .int .i64 (to - x26.due)), (81, .int .i64 z.every)] ([Fit .i64 (to - x26.due)]) (al1 (fit64 (by omega) (by omega))) (ops_opv (.int .i64 (missA z x26.due to)) (by kernel_rfl) (by kernel_rfl) (by kernel_rfl) (fun w => run_quo (kd := .i64) (a := to - x26.due) (b := z.every) (missA z x26.due to) rfl (by kernel_rfl) (by kernel_rfl) (by omega) (miss_quo haz (by omega) (by omega) (by omega) (by omega)) w) (mo0 2 [(8, .go (owns 0 3 1))] [1, 2, 4, 9, 10, 12, 13, 14, 15, 38, 39, 40] (fun _ => []) (fun _ L => (L.set 0 (bx (γ321 0) (#[.int .i64 z.vcpu, .int .i64 z.port, .int .i64 x26.due, .int .i64 (missA z x26.due to)]) 50))) (fun _ => on_ (ds_ (sq_ (qa [(1, .go (owns 2 1 1)), (2, .fit), (4, .go (owns 0 3 1)), (6, .go (owns 1 2 1)), (7, .fit), (8, .fit)] [1, 2, 4, 9, 10, 12, 13, 14, 15, 38, 39, 40] [(16, .int .i64 ((1125899906842624 - x26.due) - ((missA z x26.due to) * z.every)))] ([Fit .i64 (1125899906842624 - x26.due)] ++ ([Fit .i64 ((missA z x26.due to) * z.every)] ++ ([Fit .i64 ((1125899906842624 - x26.due) - ((missA z x26.due to) * z.every))]))) (alA (al1 (fit64 (by omega) (by omega))) (alA (al1 (fit64 (by omega) (by omega))) (al1 (fit64 (by omega) (by omega))))) (ds_ (sq_ ?_)))))))))))))
      by_cases q330 : ((1125899906842624 - x26.due) - ((missA z x26.due to) * z.every) : Int) ≥ (z.every : Int)
      ·
       refine qa [(2, .go (owns 1 2 1)), (3, .yes)] [1, 2, 4, 9, 10, 12, 13, 14, 15, 38, 39, 40] [(96, .bool true)] ([((1125899906842624 - x26.due) - ((missA z x26.due to) * z.every) : Int) ≥ (z.every : Int)]) (al1 q330) (ds_ (t_ (qa [(1, .go (owns 2 1 1)), (3, .go (owns 0 3 1)), (4, .fit), (6, .go (owns 1 2 1)), (7, .fit), (8, .fit)] [1, 2, 4, 9, 10, 13, 14, 38, 39, 40] [(15, .int .i64 (x26.due + (((missA z x26.due to) + 1) * z.every)))] ([Fit .i64 ((missA z x26.due to) + 1)] ++ ([Fit .i64 (((missA z x26.due to) + 1) * z.every)] ++ ([Fit .i64 (x26.due + (((missA z x26.due to) + 1) * z.every))]))) (alA (al1 (fit64 (by omega) (by omega))) (alA (al1 (fit64 (by omega) (by omega))) (al1 (fit64 (by omega) (by omega))))) (ds_ (sq_ (ao_ (mo0 3 [(1, .go (owns 0 0 4))] [1, 2, 4, 9, 13, 15, 38, 39, 40] (fun γ333 => [(106, .slice po no co), (108, .slice (some ⟨γ333 0, 0, none⟩) 1 1)]) (fun γ333 L => bx (γ333 0) (#[.int .i64 z.vcpu, .int .i64 z.port, .int .i64 x26.due, .int .i64 (missA z x26.due to)]) 50 :: L) (fun γ333 => Ops.pick [[bx (γ333 0) (#[.int .i64 z.vcpu, .int .i64 z.port, .int .i64 x26.due, .int .i64 (missA z x26.due to)]) 50], [bx (γ321 0) (#[.int .i64 z.vcpu, .int .i64 z.port, .int .i64 x26.due, .int .i64 (missA z x26.due to)]) 50], [bx (γ220 0) (#[.int .i64 z.vcpu, .int .i64 z.port, .int .i64 z.every]) 32], [bx (γ27 0) (#[.int .i64 x26.id, .int .i64 x26.due]) 42], [bx (γ16 0) (#[.int .i64 to, .slice pt nt ct, .slice pr nr cr]) 27], [bx (γ13 0) (#[.int .i64 to, .slice q12 m12 c12]) 24], [bx (γ1 1) (#[.int .i64 0, .slice none 0 0, .slice none 0 0]) 27], [bx (γ1 0) (#[.int .i64 now, .slice p n cap, .slice (some ⟨b36, o36, none⟩) na ca]) 27], [bx g24 cs24 42], Yt, Yr, Yo] [0, 1, 2, 3, 4, 5, 6, 7, 8, 11, 9, 10] [] (bx (γ333 0) (#[.int .i64 z.vcpu, .int .i64 z.port, .int .i64 x26.due, .int .i64 (missA z x26.due to)]) 50 :: bx (γ321 0) (#[.int .i64 z.vcpu, .int .i64 z.port, .int .i64 x26.due, .int .i64 (missA z x26.due to)]) 50 :: bx (γ220 0) (#[.int .i64 z.vcpu, .int .i64 z.port, .int .i64 z.every]) 32 :: bx (γ27 0) (#[.int .i64 x26.id, .int .i64 x26.due]) 42 :: bx (γ16 0) (#[.int .i64 to, .slice pt nt ct, .slice pr nr cr]) 27 :: bx (γ13 0) (#[.int .i64 to, .slice q12 m12 c12]) 24 :: bx (γ1 1) (#[.int .i64 0, .slice none 0 0, .slice none 0 0]) 27 :: bx (γ1 0) (#[.int .i64 now, .slice p n cap, .slice (some ⟨b36, o36, none⟩) na ca]) 27 :: bx g24 cs24 42 :: (Yo ++ (Yt ++ (Yr ++ [])))) (by kernel_rfl) rfl rfl (ops_append (α := Rng) [bx (γ333 0) (#[.int .i64 z.vcpu, .int .i64 z.port, .int .i64 x26.due, .int .i64 (missA z x26.due to)]) 50, bx (γ321 0) (#[.int .i64 z.vcpu, .int .i64 z.port, .int .i64 x26.due, .int .i64 (missA z x26.due to)]) 50, bx (γ220 0) (#[.int .i64 z.vcpu, .int .i64 z.port, .int .i64 z.every]) 32, bx (γ27 0) (#[.int .i64 x26.id, .int .i64 x26.due]) 42, bx (γ16 0) (#[.int .i64 to, .slice pt nt ct, .slice pr nr cr]) 27, bx (γ13 0) (#[.int .i64 to, .slice q12 m12 c12]) 24, bx (γ1 1) (#[.int .i64 0, .slice none 0 0, .slice none 0 0]) 27, bx (γ1 0) (#[.int .i64 now, .slice p n cap, .slice (some ⟨b36, o36, none⟩) na ca]) 27, bx g24 cs24 42] Yo (Yt ++ (Yr ++ [])) (.refl _) rfl (by kernel_rfl) (by kernel_rfl) (p := po) (n := no) (cap := co) (m := 1) (yv := .slice (some ⟨γ333 0, 0, none⟩) 1 1) (by kernel_rfl) (by kernel_rfl) (T := 50) (by_ := 32) (by kernel_rfl) (rgO to ts rs j) ([⟨z.vcpu, z.port, x26.due, (missA z x26.due to)⟩]) hQ (fun w hw => src_svn Tryz.underlying35 (sv_row (hw.row 0 rfl) (by rfl)) (by rfl)) (by rfl) (by have hmx : maxLen = 9223372036854775807 := rfl; omega) (by have hmx : maxLen = 9223372036854775807 := rfl; omega) (fun Y334 p334 cap334 hO334 => ?_))))))))))
       refine qo0 1 [] [1, 2, 4, 9, 13, 15, 38, 39, 40] [(10, .slice p334 (no + 1) cap334)] (on_ (ds_ (sq_ (qa [(1, .yes)] [1, 2, 4, 9, 10, 13, 15, 38, 39, 40] [(111, .bool true)] ([(x26.due + (((missA z x26.due to) + 1) * z.every) : Int) > (0 : Int)]) (al1 (by omega)) (ds_ (t_ (ao_ (qo0 3 [(0, .go (owns 4 0 3)), (1, .go (owns 2 0 3))] [1, 2, 4, 9, 10, 38, 39, 40] [(112, .agg #[.int .i64 to, .slice pt nt ct, .slice pr nr cr]), (113, .agg #[.int .i64 z.vcpu, .int .i64 z.port, .int .i64 z.every]), (114, .int .i64 (x26.due + (((missA z x26.due to) + 1) * z.every)))] (cP (fun v L' => ∃ q_ m_ c_ Y_ q2_ m2_ c2_ X_, v = .agg #[.int .i64 to, .slice q_ m_ c_, .slice q2_ m2_ c2_] ∧ L' = List.take 9 (bx (γ333 0) (#[.int .i64 z.vcpu, .int .i64 z.port, .int .i64 x26.due, .int .i64 (missA z x26.due to)]) 50 :: bx (γ321 0) (#[.int .i64 z.vcpu, .int .i64 z.port, .int .i64 x26.due, .int .i64 (missA z x26.due to)]) 50 :: bx (γ220 0) (#[.int .i64 z.vcpu, .int .i64 z.port, .int .i64 z.every]) 32 :: bx (γ27 0) (#[.int .i64 x26.id, .int .i64 x26.due]) 42 :: bx (γ16 0) (#[.int .i64 to, .slice pt nt ct, .slice pr nr cr]) 27 :: bx (γ13 0) (#[.int .i64 to, .slice q12 m12 c12]) 24 :: bx (γ1 1) (#[.int .i64 0, .slice none 0 0, .slice none 0 0]) 27 :: bx (γ1 0) (#[.int .i64 now, .slice p n cap, .slice (some ⟨b36, o36, none⟩) na ca]) 27 :: bx g24 cs24 42 :: (Y334 ++ (Yt ++ (Yr ++ [])))) ++ (Y_ ++ (X_ ++ List.drop 9 (bx (γ333 0) (#[.int .i64 z.vcpu, .int .i64 z.port, .int .i64 x26.due, .int .i64 (missA z x26.due to)]) 50 :: bx (γ321 0) (#[.int .i64 z.vcpu, .int .i64 z.port, .int .i64 x26.due, .int .i64 (missA z x26.due to)]) 50 :: bx (γ220 0) (#[.int .i64 z.vcpu, .int .i64 z.port, .int .i64 z.every]) 32 :: bx (γ27 0) (#[.int .i64 x26.id, .int .i64 x26.due]) 42 :: bx (γ16 0) (#[.int .i64 to, .slice pt nt ct, .slice pr nr cr]) 27 :: bx (γ13 0) (#[.int .i64 to, .slice q12 m12 c12]) 24 :: bx (γ1 1) (#[.int .i64 0, .slice none 0 0, .slice none 0 0]) 27 :: bx (γ1 0) (#[.int .i64 now, .slice p n cap, .slice (some ⟨b36, o36, none⟩) na ca]) 27 :: bx g24 cs24 42 :: (Y334 ++ (Yt ++ (Yr ++ [])))))) ∧ SlO 42 Y_ q_ m_ c_ (wiL (wiL (rgT to ts rs j) (z.vcpu - 1) 0 32) (z.vcpu - 1) (x26.due + (((missA z x26.due to) + 1) * z.every)) 32) ∧ SlO 32 X_ q2_ m2_ c2_ (wrL (rdrop (rgR to ts rs j) z.vcpu) z 16)) (fun args w => Tryz.call49 args w) (fun w hw => (rwith_t to pt nt ct (rgT to ts rs j) pr nr cr (rgR to ts rs j) z (x26.due + (((missA z x26.due to) + 1) * z.every)) w (hT.atN (A := (_ :: _ :: _ :: _ :: _ :: _ :: _ :: _ :: _ :: Y334)) hw) hT.len (by omega) (hR.at ((hw.tailN 9).sub ((List.sublist_append_right Yt _).trans (List.sublist_append_right Y334 _)))) hR.len (by omega) hI.rr' (by omega) (by omega)).mono fun e w' ⟨q_, m_, c_, Y_, q2_, m2_, c2_, X_, he, h1, h2, hb, hY⟩ => ⟨_, _, he, ⟨q_, m_, c_, Y_, q2_, m2_, c2_, X_, rfl, rfl, h1, h2⟩, hw.joinT hb hY 9⟩) ?_)))))))))
       rintro v338 L338 ⟨q338, m338, c338, Y338, p338, k338, d338, Yx338, rfl, rfl, hO338, hP338⟩
       have hm338 := hO338.len
       have hn338 := hP338.len
       refine mo0 1 [(4, .go (owns 4 0 3))] [1, 2, 4, 9, 10, 38, 39, 40] (fun _ => []) (fun _ L => (L.set 4 (bx (γ16 0) (#[.int .i64 to, .slice q338 m338 c338, .slice p338 k338 d338]) 27))) (fun _ => on_ (done_block (ds_ (qa [(0, .fit)] [1, 2, 4, 9, 10, 38, 39] [(40, .int .i64 (j + 1 : Nat))] ([Fit .i64 ((j + 1 : Nat))]) (al1 (fit64 (by omega) (by omega))) (Done.pick [[bx (γ333 0) (#[.int .i64 z.vcpu, .int .i64 z.port, .int .i64 x26.due, .int .i64 (missA z x26.due to)]) 50], [bx (γ321 0) (#[.int .i64 z.vcpu, .int .i64 z.port, .int .i64 x26.due, .int .i64 (missA z x26.due to)]) 50], [bx (γ220 0) (#[.int .i64 z.vcpu, .int .i64 z.port, .int .i64 z.every]) 32], [bx (γ27 0) (#[.int .i64 x26.id, .int .i64 x26.due]) 42], [bx (γ16 0) (#[.int .i64 to, .slice q338 m338 c338, .slice p338 k338 d338]) 27], [bx (γ13 0) (#[.int .i64 to, .slice q12 m12 c12]) 24], [bx (γ1 1) (#[.int .i64 0, .slice none 0 0, .slice none 0 0]) 27], [bx (γ1 0) (#[.int .i64 now, .slice p n cap, .slice (some ⟨b36, o36, none⟩) na ca]) 27], [bx g24 cs24 42], Y338, Yx338, Y334, Yt, Yr] [4, 5, 6, 7, 9, 10, 11, 8] [0, 1, 2, 3, 12, 13] (bx (γ16 0) (#[.int .i64 to, .slice q338 m338 c338, .slice p338 k338 d338]) 27 :: bx (γ13 0) (#[.int .i64 to, .slice q12 m12 c12]) 24 :: bx (γ1 1) (#[.int .i64 0, .slice none 0 0, .slice none 0 0]) 27 :: bx (γ1 0) (#[.int .i64 now, .slice p n cap, .slice (some ⟨b36, o36, none⟩) na ca]) 27 :: (Y338 ++ (Yx338 ++ (Y334 ++ ([bx g24 cs24 42]))))) (by kernel_rfl) rfl rfl ?_)))))
       have hvi : z.vcpu - 1 = x26.id := by omega
       have h0 : z.every ≠ 0 := by omega
       have hNX : (x26.due + (missA z x26.due to + 1) * z.every) = againM z x26.due to := by rw [againM_eq h0, Int.add_mul, Int.one_mul]; omega
       have hnn := next_is (x := z) (at_ := x26.due) (to := to) h0 (by rw [againM_eq h0]; omega)
       have heq := rg_go hx26 (by omega) hz hnn
       exact dr [1, 2, 4, 9, 10, 38, 39, 40] (j + 1, Y338, q338, m338, c338, Yx338, p338, k338, d338, Y334, p334, (no + 1), cap334) ⟨by omega, SlO.as hO338 (by rw [rgT_of heq, hNX, hvi, wi_two (wheel_iff.1 hI.wh') (by omega) (by omega) (by rw [← hNX, Int.add_mul, Int.one_mul]; omega)]), SlO.as hP338 (by rw [rgR_of heq, wr_put hI.rr' hI.al' haz, rput_same hI.rr' hz]), SlO.as hO334 (by rw [rgO_of heq, ← hzv])⟩
      ·
       refine qa [(2, .go (owns 1 2 1)), (3, .no)] [1, 2, 4, 9, 10, 12, 13, 14, 15, 38, 39, 40] [(96, .bool false)] ([¬ (((1125899906842624 - x26.due) - ((missA z x26.due to) * z.every) : Int) ≥ (z.every : Int))]) (al1 q330) (ds_ (f_ (at_skip (ds_ (sq_ (ao_ (mo0 3 [(1, .go (owns 0 0 4))] [1, 2, 4, 9, 13, 15, 38, 39, 40] (fun γ342 => [(106, .slice po no co), (108, .slice (some ⟨γ342 0, 0, none⟩) 1 1)]) (fun γ342 L => bx (γ342 0) (#[.int .i64 z.vcpu, .int .i64 z.port, .int .i64 x26.due, .int .i64 (missA z x26.due to)]) 50 :: L) (fun γ342 => Ops.pick [[bx (γ342 0) (#[.int .i64 z.vcpu, .int .i64 z.port, .int .i64 x26.due, .int .i64 (missA z x26.due to)]) 50], [bx (γ321 0) (#[.int .i64 z.vcpu, .int .i64 z.port, .int .i64 x26.due, .int .i64 (missA z x26.due to)]) 50], [bx (γ220 0) (#[.int .i64 z.vcpu, .int .i64 z.port, .int .i64 z.every]) 32], [bx (γ27 0) (#[.int .i64 x26.id, .int .i64 x26.due]) 42], [bx (γ16 0) (#[.int .i64 to, .slice pt nt ct, .slice pr nr cr]) 27], [bx (γ13 0) (#[.int .i64 to, .slice q12 m12 c12]) 24], [bx (γ1 1) (#[.int .i64 0, .slice none 0 0, .slice none 0 0]) 27], [bx (γ1 0) (#[.int .i64 now, .slice p n cap, .slice (some ⟨b36, o36, none⟩) na ca]) 27], [bx g24 cs24 42], Yt, Yr, Yo] [0, 1, 2, 3, 4, 5, 6, 7, 8, 11, 9, 10] [] (bx (γ342 0) (#[.int .i64 z.vcpu, .int .i64 z.port, .int .i64 x26.due, .int .i64 (missA z x26.due to)]) 50 :: bx (γ321 0) (#[.int .i64 z.vcpu, .int .i64 z.port, .int .i64 x26.due, .int .i64 (missA z x26.due to)]) 50 :: bx (γ220 0) (#[.int .i64 z.vcpu, .int .i64 z.port, .int .i64 z.every]) 32 :: bx (γ27 0) (#[.int .i64 x26.id, .int .i64 x26.due]) 42 :: bx (γ16 0) (#[.int .i64 to, .slice pt nt ct, .slice pr nr cr]) 27 :: bx (γ13 0) (#[.int .i64 to, .slice q12 m12 c12]) 24 :: bx (γ1 1) (#[.int .i64 0, .slice none 0 0, .slice none 0 0]) 27 :: bx (γ1 0) (#[.int .i64 now, .slice p n cap, .slice (some ⟨b36, o36, none⟩) na ca]) 27 :: bx g24 cs24 42 :: (Yo ++ (Yt ++ (Yr ++ [])))) (by kernel_rfl) rfl rfl (ops_append (α := Rng) [bx (γ342 0) (#[.int .i64 z.vcpu, .int .i64 z.port, .int .i64 x26.due, .int .i64 (missA z x26.due to)]) 50, bx (γ321 0) (#[.int .i64 z.vcpu, .int .i64 z.port, .int .i64 x26.due, .int .i64 (missA z x26.due to)]) 50, bx (γ220 0) (#[.int .i64 z.vcpu, .int .i64 z.port, .int .i64 z.every]) 32, bx (γ27 0) (#[.int .i64 x26.id, .int .i64 x26.due]) 42, bx (γ16 0) (#[.int .i64 to, .slice pt nt ct, .slice pr nr cr]) 27, bx (γ13 0) (#[.int .i64 to, .slice q12 m12 c12]) 24, bx (γ1 1) (#[.int .i64 0, .slice none 0 0, .slice none 0 0]) 27, bx (γ1 0) (#[.int .i64 now, .slice p n cap, .slice (some ⟨b36, o36, none⟩) na ca]) 27, bx g24 cs24 42] Yo (Yt ++ (Yr ++ [])) (.refl _) rfl (by kernel_rfl) (by kernel_rfl) (p := po) (n := no) (cap := co) (m := 1) (yv := .slice (some ⟨γ342 0, 0, none⟩) 1 1) (by kernel_rfl) (by kernel_rfl) (T := 50) (by_ := 32) (by kernel_rfl) (rgO to ts rs j) ([⟨z.vcpu, z.port, x26.due, (missA z x26.due to)⟩]) hQ (fun w hw => src_svn Tryz.underlying35 (sv_row (hw.row 0 rfl) (by rfl)) (by rfl)) (by rfl) (by have hmx : maxLen = 9223372036854775807 := rfl; omega) (by have hmx : maxLen = 9223372036854775807 := rfl; omega) (fun Y343 p343 cap343 hO343 => ?_))))))))))
       refine qo0 1 [] [1, 2, 4, 9, 13, 15, 38, 39, 40] [(10, .slice p343 (no + 1) cap343)] (on_ (ds_ (sq_ (qa0 [] [1, 2, 4, 9, 10, 13, 15, 38, 39, 40] [(111, .bool false)] (ds_ (f_ (ao_ (qo0 3 [(0, .go (owns 4 0 3)), (2, .go (owns 2 0 1))] [1, 2, 4, 9, 10, 38, 39, 40] [(116, .agg #[.int .i64 to, .slice pt nt ct, .slice pr nr cr]), (118, .int .i64 z.vcpu)] (cP (fun v L' => ∃ q_ m_ c_ Y_ q2_ m2_ c2_ X_, v = .agg #[.int .i64 to, .slice q_ m_ c_, .slice q2_ m2_ c2_] ∧ L' = List.take 9 (bx (γ342 0) (#[.int .i64 z.vcpu, .int .i64 z.port, .int .i64 x26.due, .int .i64 (missA z x26.due to)]) 50 :: bx (γ321 0) (#[.int .i64 z.vcpu, .int .i64 z.port, .int .i64 x26.due, .int .i64 (missA z x26.due to)]) 50 :: bx (γ220 0) (#[.int .i64 z.vcpu, .int .i64 z.port, .int .i64 z.every]) 32 :: bx (γ27 0) (#[.int .i64 x26.id, .int .i64 x26.due]) 42 :: bx (γ16 0) (#[.int .i64 to, .slice pt nt ct, .slice pr nr cr]) 27 :: bx (γ13 0) (#[.int .i64 to, .slice q12 m12 c12]) 24 :: bx (γ1 1) (#[.int .i64 0, .slice none 0 0, .slice none 0 0]) 27 :: bx (γ1 0) (#[.int .i64 now, .slice p n cap, .slice (some ⟨b36, o36, none⟩) na ca]) 27 :: bx g24 cs24 42 :: (Y343 ++ (Yt ++ (Yr ++ [])))) ++ (Y_ ++ (X_ ++ List.drop 9 (bx (γ342 0) (#[.int .i64 z.vcpu, .int .i64 z.port, .int .i64 x26.due, .int .i64 (missA z x26.due to)]) 50 :: bx (γ321 0) (#[.int .i64 z.vcpu, .int .i64 z.port, .int .i64 x26.due, .int .i64 (missA z x26.due to)]) 50 :: bx (γ220 0) (#[.int .i64 z.vcpu, .int .i64 z.port, .int .i64 z.every]) 32 :: bx (γ27 0) (#[.int .i64 x26.id, .int .i64 x26.due]) 42 :: bx (γ16 0) (#[.int .i64 to, .slice pt nt ct, .slice pr nr cr]) 27 :: bx (γ13 0) (#[.int .i64 to, .slice q12 m12 c12]) 24 :: bx (γ1 1) (#[.int .i64 0, .slice none 0 0, .slice none 0 0]) 27 :: bx (γ1 0) (#[.int .i64 now, .slice p n cap, .slice (some ⟨b36, o36, none⟩) na ca]) 27 :: bx g24 cs24 42 :: (Y343 ++ (Yt ++ (Yr ++ [])))))) ∧ SlO 42 Y_ q_ m_ c_ (wiL (rgT to ts rs j) (z.vcpu - 1) 0 32) ∧ SlO 32 X_ q2_ m2_ c2_ (rdrop (rgR to ts rs j) z.vcpu)) (fun args w => Tryz.call51 args w) (fun w hw => (without_t to pt nt ct (rgT to ts rs j) pr nr cr (rgR to ts rs j) z.vcpu w (hT.atN (A := (_ :: _ :: _ :: _ :: _ :: _ :: _ :: _ :: _ :: Y343)) hw) hT.len (by omega) (hR.at ((hw.tailN 9).sub ((List.sublist_append_right Yt _).trans (List.sublist_append_right Y343 _)))) hR.len (by omega) (by omega) (by omega)).mono fun e w' ⟨q_, m_, c_, Y_, q2_, m2_, c2_, X_, he, h1, h2, hb, hY⟩ => ⟨_, _, he, ⟨q_, m_, c_, Y_, q2_, m2_, c2_, X_, rfl, rfl, h1, h2⟩, hw.joinT hb hY 9⟩) ?_)))))))))
       rintro v347 L347 ⟨q347, m347, c347, Y347, p347, k347, d347, Yx347, rfl, rfl, hO347, hP347⟩
       have hm347 := hO347.len
       have hn347 := hP347.len
       refine mo0 1 [(4, .go (owns 4 0 3))] [1, 2, 4, 9, 10, 38, 39, 40] (fun _ => []) (fun _ L => (L.set 4 (bx (γ16 0) (#[.int .i64 to, .slice q347 m347 c347, .slice p347 k347 d347]) 27))) (fun _ => on_ (done_block (ds_ (qa [(0, .fit)] [1, 2, 4, 9, 10, 38, 39] [(40, .int .i64 (j + 1 : Nat))] ([Fit .i64 ((j + 1 : Nat))]) (al1 (fit64 (by omega) (by omega))) (Done.pick [[bx (γ342 0) (#[.int .i64 z.vcpu, .int .i64 z.port, .int .i64 x26.due, .int .i64 (missA z x26.due to)]) 50], [bx (γ321 0) (#[.int .i64 z.vcpu, .int .i64 z.port, .int .i64 x26.due, .int .i64 (missA z x26.due to)]) 50], [bx (γ220 0) (#[.int .i64 z.vcpu, .int .i64 z.port, .int .i64 z.every]) 32], [bx (γ27 0) (#[.int .i64 x26.id, .int .i64 x26.due]) 42], [bx (γ16 0) (#[.int .i64 to, .slice q347 m347 c347, .slice p347 k347 d347]) 27], [bx (γ13 0) (#[.int .i64 to, .slice q12 m12 c12]) 24], [bx (γ1 1) (#[.int .i64 0, .slice none 0 0, .slice none 0 0]) 27], [bx (γ1 0) (#[.int .i64 now, .slice p n cap, .slice (some ⟨b36, o36, none⟩) na ca]) 27], [bx g24 cs24 42], Y347, Yx347, Y343, Yt, Yr] [4, 5, 6, 7, 9, 10, 11, 8] [0, 1, 2, 3, 12, 13] (bx (γ16 0) (#[.int .i64 to, .slice q347 m347 c347, .slice p347 k347 d347]) 27 :: bx (γ13 0) (#[.int .i64 to, .slice q12 m12 c12]) 24 :: bx (γ1 1) (#[.int .i64 0, .slice none 0 0, .slice none 0 0]) 27 :: bx (γ1 0) (#[.int .i64 now, .slice p n cap, .slice (some ⟨b36, o36, none⟩) na ca]) 27 :: (Y347 ++ (Yx347 ++ (Y343 ++ ([bx g24 cs24 42]))))) (by kernel_rfl) rfl rfl ?_)))))
       have hvi : z.vcpu - 1 = x26.id := by omega
       have hnn : nextA z x26.due to = none := next_big (by omega) (by rw [againM_eq (by omega)]; omega)
       have heq := rg_no hx26 (by omega) hz hnn
       exact dr [1, 2, 4, 9, 10, 38, 39, 40] (j + 1, Y347, q347, m347, c347, Yx347, p347, k347, d347, Y343, p343, (no + 1), cap343) ⟨by omega, SlO.as hO347 (by rw [rgT_of heq, hvi, with_not (wheel_iff.1 hI.wh') (rgT_none hgA hsp.1 hsp.2 j (by omega) x26 (mem_at hx26))]), SlO.as hP347 (by rw [rgR_of heq]), SlO.as hO343 (by rw [rgO_of heq, ← hzv])⟩
     ·
      refine qa [(1, .go (owns 1 2 1)), (2, .no)] [1, 2, 4, 9, 10, 12, 13, 14, 15, 38, 39, 40] [(75, .bool false)] ([¬ ((z.every : Int) > (0 : Int))]) (al1 q324) (ds_ (f_ (at_skip (ds_ (sq_ (ao_ (mo0 3 [(1, .go (owns 0 0 4))] [1, 2, 4, 9, 13, 15, 38, 39, 40] (fun γ351 => [(106, .slice po no co), (108, .slice (some ⟨γ351 0, 0, none⟩) 1 1)]) (fun γ351 L => bx (γ351 0) (#[.int .i64 z.vcpu, .int .i64 z.port, .int .i64 x26.due, .int .i64 0]) 50 :: L) (fun γ351 => Ops.pick [[bx (γ351 0) (#[.int .i64 z.vcpu, .int .i64 z.port, .int .i64 x26.due, .int .i64 0]) 50], [bx (γ321 0) (#[.int .i64 z.vcpu, .int .i64 z.port, .int .i64 x26.due, .int .i64 0]) 50], [bx (γ220 0) (#[.int .i64 z.vcpu, .int .i64 z.port, .int .i64 z.every]) 32], [bx (γ27 0) (#[.int .i64 x26.id, .int .i64 x26.due]) 42], [bx (γ16 0) (#[.int .i64 to, .slice pt nt ct, .slice pr nr cr]) 27], [bx (γ13 0) (#[.int .i64 to, .slice q12 m12 c12]) 24], [bx (γ1 1) (#[.int .i64 0, .slice none 0 0, .slice none 0 0]) 27], [bx (γ1 0) (#[.int .i64 now, .slice p n cap, .slice (some ⟨b36, o36, none⟩) na ca]) 27], [bx g24 cs24 42], Yt, Yr, Yo] [0, 1, 2, 3, 4, 5, 6, 7, 8, 11, 9, 10] [] (bx (γ351 0) (#[.int .i64 z.vcpu, .int .i64 z.port, .int .i64 x26.due, .int .i64 0]) 50 :: bx (γ321 0) (#[.int .i64 z.vcpu, .int .i64 z.port, .int .i64 x26.due, .int .i64 0]) 50 :: bx (γ220 0) (#[.int .i64 z.vcpu, .int .i64 z.port, .int .i64 z.every]) 32 :: bx (γ27 0) (#[.int .i64 x26.id, .int .i64 x26.due]) 42 :: bx (γ16 0) (#[.int .i64 to, .slice pt nt ct, .slice pr nr cr]) 27 :: bx (γ13 0) (#[.int .i64 to, .slice q12 m12 c12]) 24 :: bx (γ1 1) (#[.int .i64 0, .slice none 0 0, .slice none 0 0]) 27 :: bx (γ1 0) (#[.int .i64 now, .slice p n cap, .slice (some ⟨b36, o36, none⟩) na ca]) 27 :: bx g24 cs24 42 :: (Yo ++ (Yt ++ (Yr ++ [])))) (by kernel_rfl) rfl rfl (ops_append (α := Rng) [bx (γ351 0) (#[.int .i64 z.vcpu, .int .i64 z.port, .int .i64 x26.due, .int .i64 0]) 50, bx (γ321 0) (#[.int .i64 z.vcpu, .int .i64 z.port, .int .i64 x26.due, .int .i64 0]) 50, bx (γ220 0) (#[.int .i64 z.vcpu, .int .i64 z.port, .int .i64 z.every]) 32, bx (γ27 0) (#[.int .i64 x26.id, .int .i64 x26.due]) 42, bx (γ16 0) (#[.int .i64 to, .slice pt nt ct, .slice pr nr cr]) 27, bx (γ13 0) (#[.int .i64 to, .slice q12 m12 c12]) 24, bx (γ1 1) (#[.int .i64 0, .slice none 0 0, .slice none 0 0]) 27, bx (γ1 0) (#[.int .i64 now, .slice p n cap, .slice (some ⟨b36, o36, none⟩) na ca]) 27, bx g24 cs24 42] Yo (Yt ++ (Yr ++ [])) (.refl _) rfl (by kernel_rfl) (by kernel_rfl) (p := po) (n := no) (cap := co) (m := 1) (yv := .slice (some ⟨γ351 0, 0, none⟩) 1 1) (by kernel_rfl) (by kernel_rfl) (T := 50) (by_ := 32) (by kernel_rfl) (rgO to ts rs j) ([⟨z.vcpu, z.port, x26.due, 0⟩]) hQ (fun w hw => src_svn Tryz.underlying35 (sv_row (hw.row 0 rfl) (by rfl)) (by rfl)) (by rfl) (by have hmx : maxLen = 9223372036854775807 := rfl; omega) (by have hmx : maxLen = 9223372036854775807 := rfl; omega) (fun Y352 p352 cap352 hO352 => ?_))))))))))
      refine qo0 1 [] [1, 2, 4, 9, 13, 15, 38, 39, 40] [(10, .slice p352 (no + 1) cap352)] (on_ (ds_ (sq_ (qa0 [] [1, 2, 4, 9, 10, 13, 15, 38, 39, 40] [(111, .bool false)] (ds_ (f_ (ao_ (qo0 3 [(0, .go (owns 4 0 3)), (2, .go (owns 2 0 1))] [1, 2, 4, 9, 10, 38, 39, 40] [(116, .agg #[.int .i64 to, .slice pt nt ct, .slice pr nr cr]), (118, .int .i64 z.vcpu)] (cP (fun v L' => ∃ q_ m_ c_ Y_ q2_ m2_ c2_ X_, v = .agg #[.int .i64 to, .slice q_ m_ c_, .slice q2_ m2_ c2_] ∧ L' = List.take 9 (bx (γ351 0) (#[.int .i64 z.vcpu, .int .i64 z.port, .int .i64 x26.due, .int .i64 0]) 50 :: bx (γ321 0) (#[.int .i64 z.vcpu, .int .i64 z.port, .int .i64 x26.due, .int .i64 0]) 50 :: bx (γ220 0) (#[.int .i64 z.vcpu, .int .i64 z.port, .int .i64 z.every]) 32 :: bx (γ27 0) (#[.int .i64 x26.id, .int .i64 x26.due]) 42 :: bx (γ16 0) (#[.int .i64 to, .slice pt nt ct, .slice pr nr cr]) 27 :: bx (γ13 0) (#[.int .i64 to, .slice q12 m12 c12]) 24 :: bx (γ1 1) (#[.int .i64 0, .slice none 0 0, .slice none 0 0]) 27 :: bx (γ1 0) (#[.int .i64 now, .slice p n cap, .slice (some ⟨b36, o36, none⟩) na ca]) 27 :: bx g24 cs24 42 :: (Y352 ++ (Yt ++ (Yr ++ [])))) ++ (Y_ ++ (X_ ++ List.drop 9 (bx (γ351 0) (#[.int .i64 z.vcpu, .int .i64 z.port, .int .i64 x26.due, .int .i64 0]) 50 :: bx (γ321 0) (#[.int .i64 z.vcpu, .int .i64 z.port, .int .i64 x26.due, .int .i64 0]) 50 :: bx (γ220 0) (#[.int .i64 z.vcpu, .int .i64 z.port, .int .i64 z.every]) 32 :: bx (γ27 0) (#[.int .i64 x26.id, .int .i64 x26.due]) 42 :: bx (γ16 0) (#[.int .i64 to, .slice pt nt ct, .slice pr nr cr]) 27 :: bx (γ13 0) (#[.int .i64 to, .slice q12 m12 c12]) 24 :: bx (γ1 1) (#[.int .i64 0, .slice none 0 0, .slice none 0 0]) 27 :: bx (γ1 0) (#[.int .i64 now, .slice p n cap, .slice (some ⟨b36, o36, none⟩) na ca]) 27 :: bx g24 cs24 42 :: (Y352 ++ (Yt ++ (Yr ++ [])))))) ∧ SlO 42 Y_ q_ m_ c_ (wiL (rgT to ts rs j) (z.vcpu - 1) 0 32) ∧ SlO 32 X_ q2_ m2_ c2_ (rdrop (rgR to ts rs j) z.vcpu)) (fun args w => Tryz.call51 args w) (fun w hw => (without_t to pt nt ct (rgT to ts rs j) pr nr cr (rgR to ts rs j) z.vcpu w (hT.atN (A := (_ :: _ :: _ :: _ :: _ :: _ :: _ :: _ :: _ :: Y352)) hw) hT.len (by omega) (hR.at ((hw.tailN 9).sub ((List.sublist_append_right Yt _).trans (List.sublist_append_right Y352 _)))) hR.len (by omega) (by omega) (by omega)).mono fun e w' ⟨q_, m_, c_, Y_, q2_, m2_, c2_, X_, he, h1, h2, hb, hY⟩ => ⟨_, _, he, ⟨q_, m_, c_, Y_, q2_, m2_, c2_, X_, rfl, rfl, h1, h2⟩, hw.joinT hb hY 9⟩) ?_)))))))))
      rintro v356 L356 ⟨q356, m356, c356, Y356, p356, k356, d356, Yx356, rfl, rfl, hO356, hP356⟩
      have hm356 := hO356.len
      have hn356 := hP356.len
      refine mo0 1 [(4, .go (owns 4 0 3))] [1, 2, 4, 9, 10, 38, 39, 40] (fun _ => []) (fun _ L => (L.set 4 (bx (γ16 0) (#[.int .i64 to, .slice q356 m356 c356, .slice p356 k356 d356]) 27))) (fun _ => on_ (done_block (ds_ (qa [(0, .fit)] [1, 2, 4, 9, 10, 38, 39] [(40, .int .i64 (j + 1 : Nat))] ([Fit .i64 ((j + 1 : Nat))]) (al1 (fit64 (by omega) (by omega))) (Done.pick [[bx (γ351 0) (#[.int .i64 z.vcpu, .int .i64 z.port, .int .i64 x26.due, .int .i64 0]) 50], [bx (γ321 0) (#[.int .i64 z.vcpu, .int .i64 z.port, .int .i64 x26.due, .int .i64 0]) 50], [bx (γ220 0) (#[.int .i64 z.vcpu, .int .i64 z.port, .int .i64 z.every]) 32], [bx (γ27 0) (#[.int .i64 x26.id, .int .i64 x26.due]) 42], [bx (γ16 0) (#[.int .i64 to, .slice q356 m356 c356, .slice p356 k356 d356]) 27], [bx (γ13 0) (#[.int .i64 to, .slice q12 m12 c12]) 24], [bx (γ1 1) (#[.int .i64 0, .slice none 0 0, .slice none 0 0]) 27], [bx (γ1 0) (#[.int .i64 now, .slice p n cap, .slice (some ⟨b36, o36, none⟩) na ca]) 27], [bx g24 cs24 42], Y356, Yx356, Y352, Yt, Yr] [4, 5, 6, 7, 9, 10, 11, 8] [0, 1, 2, 3, 12, 13] (bx (γ16 0) (#[.int .i64 to, .slice q356 m356 c356, .slice p356 k356 d356]) 27 :: bx (γ13 0) (#[.int .i64 to, .slice q12 m12 c12]) 24 :: bx (γ1 1) (#[.int .i64 0, .slice none 0 0, .slice none 0 0]) 27 :: bx (γ1 0) (#[.int .i64 now, .slice p n cap, .slice (some ⟨b36, o36, none⟩) na ca]) 27 :: (Y356 ++ (Yx356 ++ (Y352 ++ ([bx g24 cs24 42]))))) (by kernel_rfl) rfl rfl ?_)))))
      have hvi : z.vcpu - 1 = x26.id := by omega
      have hnn : nextA z x26.due to = none := next_zero (by omega)
      have heq := rg_no hx26 (by omega) hz hnn
      exact dr [1, 2, 4, 9, 10, 38, 39, 40] (j + 1, Y356, q356, m356, c356, Yx356, p356, k356, d356, Y352, p352, (no + 1), cap352) ⟨by omega, SlO.as hO356 (by rw [rgT_of heq, hvi, with_not (wheel_iff.1 hI.wh') (rgT_none hgA hsp.1 hsp.2 j (by omega) x26 (mem_at hx26))]), SlO.as hP356 (by rw [rgR_of heq]), SlO.as hO352 (by rw [rgO_of heq, ← hzv, miss_zero (show z.every = 0 from by omega)])⟩
   ·
    refine qa [(0, .no)] [1, 2, 4, 9, 10, 38, 39, 40] [(41, .bool false)] ([¬ (((j : Nat) : Int) < ((k12 : Nat) : Int))]) (al1 q21) (ds_ (sq_ (f_ (at_leave _ rfl (ds_ (sq_ (ma0 [(0, .go (owns 0 0 3)), (2, .go (owns 2 0 3))] [4] (fun _ => [(5, .slice po no co), (6, .int .i64 0)]) (fun _ L => (L.set 2 (bx (γ1 1) (#[.int .i64 to, .slice pt nt ct, .slice pr nr cr]) 27))) (fun _ => ds_ (rt (owns 2 0 3) (.tuple #[.agg #[.int .i64 to, .slice pt nt ct, .slice pr nr cr], .slice po no co, .int .i64 0]) ?_)))))))))
    have hend := rg_end (rs := rs) (to := to) (ts := ts) (j := j) (by omega)
    exact fun w' hw => by rw [passA_ok hg hsp, passR_ok hg hsp, ← hend]; exact ⟨_, _, _, _, _, _, _, _, _, _, _, _, rfl, hT, hR, hQ, hw.below, three_tails (Hs.pick [[bx (γ16 0) (#[.int .i64 to, .slice pt nt ct, .slice pr nr cr]) 27], [bx (γ13 0) (#[.int .i64 to, .slice q12 m12 c12]) 24], [bx (γ1 1) (#[.int .i64 to, .slice pt nt ct, .slice pr nr cr]) 27], [bx (γ1 0) (#[.int .i64 now, .slice p n cap, .slice pa na ca]) 27], Yt, Yr, Yo, Yx12] [4, 5, 6] [0, 1, 2, 3, 7] (by kernel_rfl) hw)⟩
end Go.Proofs.YtdbamgbgnpadjaaGreat

/-! Alarms: by way of another time; plain. -/
namespace Go.Proofs.YtdbamgbgnpadjaaGreat
open Go Go.RowKit

section
variable {now k v at_ to nx one two : Int} {ts : List Tim} {rs : List Alm} {x y : Alm} {t : Tim} {j : Nat}
theorem after_good (g : GoodA now ts rs) (h1 : now ≤ to) (h2 : to ≤ 1125899906842624) : GoodA to (ringsV to ts rs).1 (ringsV to ts rs).2.1 := by
  have hI := rings_good g h1 h2
  have e := rg_end (rs := rs) (to := to) (ts := ts) (Nat.le_refl (sortT (duL ts to)).length)
  refine ⟨by rw [← e]; exact hI.rr, by rw [← e]; exact hI.al, by rw [← e]; exact hI.wh, fun v hv1 hv2 => ?_⟩
  rw [after_T g h1 h2, after_R g h1 h2 v hv1 hv2]
  have hl := g.lk v hv1 hv2
  cases hk : getK Tim.id ts (v - 1) with
  | none => rfl
  | some t =>
    rw [hk] at hl
    obtain ⟨x, hx⟩ := Option.isSome_iff_exists.1 hl.symm
    simp only [hx]
    split
    · rfl
    · cases finT to rs t <;> rfl
/-- How often one has rung: those that were missed counted. -/
def wgt (v p : Int) (r : Rng) : Int := if r.vcpu = v ∧ r.port = p then 1 + r.missed else 0
def cntR (l : List Rng) (v p : Int) : Int := (l.map (wgt v p)).sum
end
end Go.Proofs.YtdbamgbgnpadjaaGreat

/-! Alarms: what comes of them by an op; plain. -/
namespace Go.Proofs.YtdbamgbgnpadjaaGreat
open Go Go.RowKit

def OpA8.enc (o : OpA8) : List Value := [.int .i64 o.kind, .int .i64 o.vcpu, .int .i64 o.al.vcpu, .int .i64 o.al.port, .int .i64 o.al.every, .int .i64 o.time, .bool o.on]
instance : Enc OpA8 := ⟨OpA8.enc, 7, fun _ => rfl, fun x v h => by simp [OpA8.enc] at h; rcases h with rfl | rfl | rfl | rfl | rfl | rfl | rfl <;> rfl, by decide⟩
section
variable {now k v at_ to nx : Int} {ts : List Tim} {rs : List Alm} {o : OpA8}
theorem op_01 (h : kdV o.kind = 0 ∨ kdV o.kind = 1) : opV8 now ts rs o = startV now ts rs o.al (otV now o.on o.time) ∧ opR8 now ts rs o = [] :=
  ⟨if_pos h, if_pos (h.elim .inl fun h => .inr (.inl h))⟩
theorem op_2 (h : kdV o.kind = 2) : opV8 now ts rs o = stopV now ts rs o.vcpu ∧ opR8 now ts rs o = [] := by
  constructor
  · unfold opV8; rw [if_neg (by omega), if_pos h]
  · exact if_pos (.inr (.inr (.inl h)))
theorem op_3 (h : kdV o.kind = 3) : opV8 now ts rs o = sleepV now ts rs o.vcpu (otV now o.on o.time) ∧ opR8 now ts rs o = [] := by
  constructor
  · unfold opV8; rw [if_neg (by omega), if_neg (by omega), if_pos h]
  · exact if_pos (.inr (.inr (.inr (.inl h))))
theorem op_4 (h : kdV o.kind = 4) : opV8 now ts rs o = wakeV now ts rs o.vcpu ∧ opR8 now ts rs o = [] := by
  constructor
  · unfold opV8; rw [if_neg (by omega), if_neg (by omega), if_neg (by omega), if_pos h]
  · exact if_pos (.inr (.inr (.inr (.inr h))))
theorem op_5 (h0 : ¬ kdV o.kind = 0) (h1 : ¬ kdV o.kind = 1) (h2 : ¬ kdV o.kind = 2) (h3 : ¬ kdV o.kind = 3) (h4 : ¬ kdV o.kind = 4) : opV8 now ts rs o = passA now ts rs (otV now o.on o.time) ∧ opR8 now ts rs o = passR now ts rs (otV now o.on o.time) := by
  constructor
  · unfold opV8; rw [if_neg (by omega), if_neg h2, if_neg h3, if_neg h4]
  · unfold opR8; rw [if_neg (by omega)]
/-- What a mover leaves is nothing, or alarms that may be. -/
def Left8 (a : A4) : Prop := a.2.1.length ≤ 32 ∧ a.2.2.1.length ≤ 16
theorem left_nil {n e : Int} : Left8 (n, [], [], e) := ⟨Nat.zero_le _, Nat.zero_le _⟩
theorem left_good {n e : Int} (g : alB n ts rs = true) : Left8 (n, ts, rs, e) := ⟨(al_iff.1 g).gw.len, (al_iff.1 g).rl⟩
theorem left_start {x : Alm} : Left8 (startV now ts rs x at_) := by
  unfold startV
  split
  · rename_i g
    split
    · rename_i h; exact left_good (start_good g h)
    · exact left_nil
  · exact left_nil
theorem left_stop : Left8 (stopV now ts rs v) := by
  unfold stopV
  split
  · rename_i g
    split
    · split
      · rename_i ht; exact left_good (stop_good g ht)
      · exact left_nil
    · exact left_nil
  · exact left_nil
theorem left_sleep : Left8 (sleepV now ts rs v at_) := by
  unfold sleepV
  split
  · rename_i g
    split
    · rename_i h; exact left_good (sleep_good g h.1 h.2)
    · exact left_nil
  · exact left_nil
theorem left_wake : Left8 (wakeV now ts rs v) := by
  unfold wakeV
  split
  · rename_i g
    split
    · rename_i hv
      split
      · rename_i ht; exact left_good (wake_good g hv ht)
      · exact left_nil
    · exact left_nil
  · exact left_nil
theorem left_pass : Left8 (passA now ts rs to) := by
  unfold passA
  split
  · rename_i g
    split
    · rename_i h; exact left_good (al_iff.2 (after_good (al_iff.1 g) h.1 h.2))
    · exact left_nil
  · exact left_nil
theorem left_op : Left8 (opV8 now ts rs o) := by
  unfold opV8
  split
  · exact left_start
  · split
    · exact left_stop
    · split
      · exact left_sleep
      · split
        · exact left_wake
        · exact left_pass
theorem left_rings : (opR8 now ts rs o).length ≤ 32 := by
  unfold opR8
  split
  · exact Nat.zero_le _
  · unfold passR
    split
    · rename_i h; exact rings_len (al_iff.1 h.1) h.2.1 h.2.2
    · exact Nat.zero_le _
def otW (now : Int) (on : Bool) (time : Int) : Int := if on = true then IntKind.i64.wrap (now + Int.tmod time 4503599627370496) else time
theorem shT_same (h : ts.length ≤ 33) : shT ts = ts := List.take_of_length_le h
theorem shR_same (h : rs.length ≤ 17) : shR rs = rs := List.take_of_length_le h
end
end Go.Proofs.YtdbamgbgnpadjaaGreat

/-! Alarms: ops, with the layer and as the document says. -/
namespace Go.Proofs.YtdbamgbgnpadjaaGreat
open Go Go.RowKit

set_option maxRecDepth 100000 in
theorem samer_t (pa : Option Addr) (na ca : Nat) (rs : List Rng) (pa2 : Option Addr) (na2 ca2 : Nat) (rs2 : List Rng) (w : World)
 (hrs : Sv w pa rs) (hna : na = rs.length) (hba : na ≤ 1000)
 (hrs2 : Sv w pa2 rs2) (hna2 : na2 = rs2.length) (hba2 : na2 ≤ 1000)
 : Calls Tryz.prog 8 #[.slice pa na ca, .slice pa2 na2 ca2] w fun e w' => e = .returned (.bool (decide (rs = rs2))) ∧ Below w.heap.size w w' := by
 refine enter (Hs.start w) Tryz.func8 rfl Tryz.ntmps8 rfl (sq_ (qa0 [] [0, 1] [] (ds_ (sq_ (sq_ ?_)))))
 by_cases q3 : ((na : Nat) : Int) ≠ ((na2 : Nat) : Int)
 ·
  refine qa [(4, .yes)] [0, 1] [(10, .bool true)] ([((na : Nat) : Int) ≠ ((na2 : Nat) : Int)]) (al1 q3) (ds_ (t_ (sq_ (qa0 [] [] [(4, .bool false)] (ds_ (rt ([]) (.bool false) ?_))))))
  exact fun w' hw => ⟨by rw [dsame_len (l := rs) (l2 := rs2) (by omega)], hw.below⟩
 ·
  refine qa [(4, .no)] [0, 1] [(10, .bool false)] ([¬ (((na : Nat) : Int) ≠ ((na2 : Nat) : Int))]) (al1 q3) (ds_ (f_ (at_skip (ds_ (sq_ (sq_ (qa0 [] [0, 1] [(12, .int .i64 (na : Nat)), (13, .int .i64 0)] (ds_ (at_block (at_loop (α := Nat) [0, 1, 12, 13] (fun j => [(0, .slice pa na ca), (1, .slice pa2 na2 ca2), (12, .int .i64 (na : Nat)), (13, .int .i64 (j : Nat))]) (fun j => []) (fun j => j ≤ na ∧ rs.take j = rs2.take j) (fun j => na - j) 0 (by kernel_rfl) rfl ⟨Nat.zero_le _, rfl⟩ ?_))))))))))
  rintro j
  rintro ⟨hj, hIj⟩
  refine sq_ ?_
  by_cases q9 : ((j : Nat) : Int) < ((na : Nat) : Int)
  ·
   refine qa [(0, .yes)] [0, 1, 12, 13] [(14, .bool true)] ([((j : Nat) : Int) < ((na : Nat) : Int)]) (al1 q9) (ds_ (sq_ (t_ (at_skip (ds_ (sq_ (at_block (sq_ (qa0 [] [0, 1, 12, 13] [(5, .int .i64 (j : Nat))] (ds_ (sq_ ?_)))))))))))
   obtain ⟨b13, o13, rfl⟩ := hrs.pos (i := j) (by omega)
   obtain ⟨x15, hx15⟩ := get_some (l := rs) (m := j) (by omega)
   obtain ⟨b17, o17, rfl⟩ := hrs2.pos (i := j) (by omega)
   obtain ⟨x19, hx19⟩ := get_some (l := rs2) (m := j) (by omega)
   by_cases q21 : x15 = x19
   ·
    refine cq [(2, .at b13 o13 j), (3, .go (outs b13 (o13 + j * 4) [.int .i64 x15.vcpu, .int .i64 x15.port, .int .i64 x15.at_, .int .i64 x15.missed])), (6, .at b17 o17 j), (7, .go (outs b17 (o17 + j * 4) [.int .i64 x19.vcpu, .int .i64 x19.port, .int .i64 x19.at_, .int .i64 x19.missed])), (8, .eqs false)] [0, 1, 12, 13] [(24, .bool false)] ([(some ⟨b13, o13, none⟩ : Option Addr) = some ⟨b13, o13, none⟩, (j : Nat) = ((j : Nat) : Int), j < na] ++ (cellsP w b13 (o13 + j * 4) [.int .i64 x15.vcpu, .int .i64 x15.port, .int .i64 x15.at_, .int .i64 x15.missed] ++ ([(some ⟨b17, o17, none⟩ : Option Addr) = some ⟨b17, o17, none⟩, (j : Nat) = ((j : Nat) : Int), j < na2] ++ (cellsP w b17 (o17 + j * 4) [.int .i64 x19.vcpu, .int .i64 x19.port, .int .i64 x19.at_, .int .i64 x19.missed] ++ ([EqRun Tryz.prog .neq 50 (.tmp 19) (.tmp 23) (.agg #[.int .i64 x15.vcpu, .int .i64 x15.port, .int .i64 x15.at_, .int .i64 x15.missed]) (.agg #[.int .i64 x19.vcpu, .int .i64 x19.port, .int .i64 x19.at_, .int .i64 x19.missed]) false]))))) rfl (by kernel_rfl) (by kernel_rfl) (by kernel_rfl) (alA (al2 rfl (al2 rfl (al1 (by omega)))) (alA (rd_pre (hrs.get hx15) _ rfl) (alA (al2 rfl (al2 rfl (al1 (by omega)))) (alA (rd_pre (hrs2.get hx19) _ rfl) (al1 (rng_ne_t (a := x15) (b := x19) q21)))))) (ds_ (f_ (at_skip (done_block (ds_ (qa [(0, .fit)] [0, 1, 12] [(13, .int .i64 (j + 1 : Nat))] ([Fit .i64 ((j + 1 : Nat))]) (al1 (fit64 (by omega) (by omega))) ?_))))))
    exact dr [0, 1, 12, 13] (j + 1) ⟨by omega, dsame_on hIj hx15 hx19 (by first | assumption | omega)⟩
   ·
    refine cq [(2, .at b13 o13 j), (3, .go (outs b13 (o13 + j * 4) [.int .i64 x15.vcpu, .int .i64 x15.port, .int .i64 x15.at_, .int .i64 x15.missed])), (6, .at b17 o17 j), (7, .go (outs b17 (o17 + j * 4) [.int .i64 x19.vcpu, .int .i64 x19.port, .int .i64 x19.at_, .int .i64 x19.missed])), (8, .eqs true)] [0, 1, 12, 13] [(24, .bool true)] ([(some ⟨b13, o13, none⟩ : Option Addr) = some ⟨b13, o13, none⟩, (j : Nat) = ((j : Nat) : Int), j < na] ++ (cellsP w b13 (o13 + j * 4) [.int .i64 x15.vcpu, .int .i64 x15.port, .int .i64 x15.at_, .int .i64 x15.missed] ++ ([(some ⟨b17, o17, none⟩ : Option Addr) = some ⟨b17, o17, none⟩, (j : Nat) = ((j : Nat) : Int), j < na2] ++ (cellsP w b17 (o17 + j * 4) [.int .i64 x19.vcpu, .int .i64 x19.port, .int .i64 x19.at_, .int .i64 x19.missed] ++ ([EqRun Tryz.prog .neq 50 (.tmp 19) (.tmp 23) (.agg #[.int .i64 x15.vcpu, .int .i64 x15.port, .int .i64 x15.at_, .int .i64 x15.missed]) (.agg #[.int .i64 x19.vcpu, .int .i64 x19.port, .int .i64 x19.at_, .int .i64 x19.missed]) true]))))) rfl (by kernel_rfl) (by kernel_rfl) (by kernel_rfl) (alA (al2 rfl (al2 rfl (al1 (by omega)))) (alA (rd_pre (hrs.get hx15) _ rfl) (alA (al2 rfl (al2 rfl (al1 (by omega)))) (alA (rd_pre (hrs2.get hx19) _ rfl) (al1 (rng_ne_f (a := x15) (b := x19) q21)))))) (ds_ (t_ (sq_ (qa0 [] [] [(4, .bool false)] (ds_ (rt ([]) (.bool false) ?_))))))
    exact fun w' hw => ⟨by rw [dsame_no hx15 hx19 (by assumption)], hw.below⟩
  ·
   refine qa [(0, .no)] [0, 1, 12, 13] [(14, .bool false)] ([¬ (((j : Nat) : Int) < ((na : Nat) : Int))]) (al1 q9) (ds_ (sq_ (f_ (at_leave _ rfl (ds_ (sq_ (qa0 [] [] [(4, .bool true)] (ds_ (rt ([]) (.bool true) ?_)))))))))
   exact fun w' hw => ⟨by rw [dsame_yes hIj (by omega) (by omega)], hw.below⟩

set_option maxRecDepth 100000 in
theorem otw_t (o : OpA8) (now : Int) (p : Option Addr) (n cap : Nat) (ts : List Tim) (pa : Option Addr) (na ca : Nat) (rs : List Alm) (w : World)
 : Calls Tryz.prog 14 #[.agg #[.int .i64 o.kind, .int .i64 o.vcpu, .int .i64 o.al.vcpu, .int .i64 o.al.port, .int .i64 o.al.every, .int .i64 o.time, .bool o.on], .agg #[.int .i64 now, .slice p n cap, .slice pa na ca]] w fun e w' => e = .returned (.int .i64 (otW now o.on o.time)) ∧ Below w.heap.size w w' := by
 refine enter (Hs.start w) Tryz.func14 rfl Tryz.ntmps14 rfl (sq_ (ma0 [] [] (fun γ1 => [(2, .pointer (some ⟨γ1 0, 0, none⟩)), (3, .pointer (some ⟨γ1 1, 0, none⟩))]) (fun γ1 L => bx (γ1 1) (#[.int .i64 now, .slice p n cap, .slice pa na ca]) 27 :: bx (γ1 0) (#[.int .i64 o.kind, .int .i64 o.vcpu, .int .i64 o.al.vcpu, .int .i64 o.al.port, .int .i64 o.al.every, .int .i64 o.time, .bool o.on]) 34 :: L) (fun γ1 => ds_ (sq_ (sq_ (qa0 [(1, .go (owns 1 6 1))] [2, 3] [(6, .bool o.on)] (ds_ ?_)))))))
 rcases q3 : o.on with _ | _
 ·
  refine f_ (at_skip (ds_ (sq_ (qa0 [(1, .go (owns 1 5 1))] [] [(4, .int .i64 o.time)] (ds_ (rt ([]) (.int .i64 o.time) ?_))))))
  exact fun w' hw => ⟨rfl, hw.below⟩
 ·
  refine t_ (sq_ (qa [(2, .go (owns 0 0 1)), (4, .go (owns 1 5 1)), (6, .is [] (.int .i64 (IntKind.i64.wrap (now + Int.tmod o.time 4503599627370496))))] [] [(4, .int .i64 (IntKind.i64.wrap (now + Int.tmod o.time 4503599627370496)))] ([Value.int .i64 (IntKind.i64.wrap (now + Int.tmod o.time 4503599627370496)) = .int .i64 (IntKind.i64.wrap (now + Int.tmod o.time 4503599627370496))]) (al1 rfl) (ds_ (rt ([]) (.int .i64 (IntKind.i64.wrap (now + Int.tmod o.time 4503599627370496))) ?_))))
  exact fun w' hw => ⟨rfl, hw.below⟩

set_option maxRecDepth 100000 in
theorem run_t (o : OpA8) (now : Int) (p : Option Addr) (n cap : Nat) (ts : List Tim) (pa : Option Addr) (na ca : Nat) (rs : List Alm) (w : World)
 (hts : Sv w p ts) (hn : n = ts.length) (hb : n ≤ 1000)
 (hrs : Sv w pa rs) (hna : na = rs.length) (hba : na ≤ 1000)
 : Calls Tryz.prog 6 #[.agg #[.int .i64 o.kind, .int .i64 o.vcpu, .int .i64 o.al.vcpu, .int .i64 o.al.port, .int .i64 o.al.every, .int .i64 o.time, .bool o.on], .agg #[.int .i64 now, .slice p n cap, .slice pa na ca]] w fun e w' => ∃ q m c Y q2 m2 c2 X q3 m3 c3 Z, e = .returned (.tuple #[.agg #[.int .i64 (opV8 now ts rs o).1, .slice q m c, .slice q2 m2 c2], .slice q3 m3 c3, .int .i64 (opV8 now ts rs o).2.2.2]) ∧ SlO 42 Y q m c (opV8 now ts rs o).2.1 ∧ SlO 32 X q2 m2 c2 (opV8 now ts rs o).2.2.1 ∧ SlO 50 Z q3 m3 c3 (opR8 now ts rs o) ∧ Below w.heap.size w w' ∧ Hs w (Y ++ (X ++ Z)) w' := by
 refine enter (Hs.start w) Tryz.func6 rfl Tryz.ntmps6 rfl (sq_ (ma0 [] [] (fun γ1 => [(2, .pointer (some ⟨γ1 0, 0, none⟩)), (3, .pointer (some ⟨γ1 1, 0, none⟩)), (4, .pointer (some ⟨γ1 2, 0, none⟩)), (5, .slice none 0 0)]) (fun γ1 L => bx (γ1 2) (#[.int .i64 0, .slice none 0 0, .slice none 0 0]) 27 :: bx (γ1 1) (#[.int .i64 now, .slice p n cap, .slice pa na ca]) 27 :: bx (γ1 0) (#[.int .i64 o.kind, .int .i64 o.vcpu, .int .i64 o.al.vcpu, .int .i64 o.al.port, .int .i64 o.al.every, .int .i64 o.time, .bool o.on]) 34 :: L) (fun γ1 => ds_ (sq_ (sq_ ?_)))))
 rcases q2 : alB now ts rs with _ | _
 ·
  refine qa0 [(1, .go (owns 2 0 1))] [2, 3, 4, 5] [(10, .int .u64 (kdV o.kind))] (ds_ (at_block (at_cutS [(2, .pointer (some ⟨γ1 0, 0, none⟩)), (3, .pointer (some ⟨γ1 1, 0, none⟩)), (4, .pointer (some ⟨γ1 2, 0, none⟩)), (5, .slice none 0 0), (10, .int .u64 (kdV o.kind)), (20, .bool (decide (kdV o.kind = 0 ∨ kdV o.kind = 1)))] (fun hm4 => ?_) ?_)))
  ·
   refine sq_ ?_
   by_cases q6 : (kdV o.kind : Int) = (0 : Int)
   ·
    refine qa [(0, .yes)] [2, 3, 4, 5, 10] [(20, .bool true)] ([(kdV o.kind : Int) = (0 : Int)]) (al1 q6) (ds_ (t_ (at_skip ?_)))
    exact hm4.weakS [2, 3, 4, 5, 10, 20] (by rw [show decide (kdV o.kind = 0 ∨ kdV o.kind = 1) = true from decide_eq_true (.inl q6)]; kernel_rfl)
   ·
    refine qa [(0, .no)] [2, 3, 4, 5, 10] [(20, .bool false)] ([¬ ((kdV o.kind : Int) = (0 : Int))]) (al1 q6) (ds_ (f_ ?_))
    by_cases q10 : (kdV o.kind : Int) = (1 : Int)
    ·
     refine qa [(0, .yes)] [2, 3, 4, 5, 10] [(20, .bool true)] ([(kdV o.kind : Int) = (1 : Int)]) (al1 q10) ?_
     exact hm4.weakS [2, 3, 4, 5, 10, 20] (by rw [show decide (kdV o.kind = 0 ∨ kdV o.kind = 1) = true from decide_eq_true (.inr q10)]; kernel_rfl)
    ·
     refine qa [(0, .no)] [2, 3, 4, 5, 10] [(20, .bool false)] ([¬ ((kdV o.kind : Int) = (1 : Int))]) (al1 q10) ?_
     exact hm4.weakS [2, 3, 4, 5, 10, 20] (by rw [show decide (kdV o.kind = 0 ∨ kdV o.kind = 1) = false from decide_eq_false (fun h => h.elim q6 q10)]; kernel_rfl)
  ·
   rcases q13 : decide (kdV o.kind = 0 ∨ kdV o.kind = 1) with _ | _
   ·
    refine f_ (sq_ ?_)
    by_cases q15 : (kdV o.kind : Int) = (2 : Int)
    ·
     refine qa [(0, .yes)] [2, 3, 4, 5, 10] [(33, .bool true)] ([(kdV o.kind : Int) = (2 : Int)]) (al1 q15) (ds_ (t_ (ao_ (qo0 3 [(0, .go (owns 1 0 3)), (2, .go (owns 2 1 1))] [4, 5] [(36, .agg #[.int .i64 now, .slice p n cap, .slice pa na ca]), (38, .int .i64 o.vcpu)] (cP (fun v L' => ∃ q_ m_ c_ Y_ q2_ m2_ c2_ X_, v = .tuple #[.agg #[.int .i64 0, .slice q_ m_ c_, .slice q2_ m2_ c2_], .int .i64 280] ∧ L' = List.take 3 ([bx (γ1 2) (#[.int .i64 0, .slice none 0 0, .slice none 0 0]) 27, bx (γ1 1) (#[.int .i64 now, .slice p n cap, .slice pa na ca]) 27, bx (γ1 0) (#[.int .i64 o.kind, .int .i64 o.vcpu, .int .i64 o.al.vcpu, .int .i64 o.al.port, .int .i64 o.al.every, .int .i64 o.time, .bool o.on]) 34]) ++ (Y_ ++ (X_ ++ List.drop 3 ([bx (γ1 2) (#[.int .i64 0, .slice none 0 0, .slice none 0 0]) 27, bx (γ1 1) (#[.int .i64 now, .slice p n cap, .slice pa na ca]) 27, bx (γ1 0) (#[.int .i64 o.kind, .int .i64 o.vcpu, .int .i64 o.al.vcpu, .int .i64 o.al.port, .int .i64 o.al.every, .int .i64 o.time, .bool o.on]) 34]))) ∧ SlO 42 Y_ q_ m_ c_ ([] : List Tim) ∧ SlO 32 X_ q2_ m2_ c2_ ([] : List Alm)) (fun args w => Tryz.call15 args w) (fun w hw => by have := stop_t now p n cap ts pa na ca rs o.vcpu w (hts.kept hw.below) hn (by omega) (hrs.kept hw.below) hna (by omega); rw [stopV_bad q2] at this; exact this.mono fun e w' ⟨q_, m_, c_, Y_, q2_, m2_, c2_, X_, he, h1, h2, hb, hY⟩ => ⟨_, _, he, ⟨q_, m_, c_, Y_, q2_, m2_, c2_, X_, rfl, rfl, h1, h2⟩, hw.joinT hb hY 3⟩) ?_)))))
     rintro v18 L18 ⟨q18, m18, c18, Y18, p18, k18, d18, Yx18, rfl, rfl, hO18, hP18⟩
     have hm18 := hO18.len
     have hn18 := hP18.len
     simp only [List.length_cons, List.length_nil] at hm18
     simp only [List.length_cons, List.length_nil] at hn18
     refine mo0 5 [(7, .go (owns 0 0 3))] [4, 5] (fun _ => [(6, .int .i64 280)]) (fun _ L => (L.set 0 (bx (γ1 2) (#[.int .i64 0, .slice q18 m18 c18, .slice p18 k18 d18]) 27))) (fun _ => on_ (done_block (ds_ (sq_ (qa0 [(0, .go (owns 0 0 3)), (3, .go (owns 0 0 3))] [4] [(5, .slice none 0 0), (6, .int .i64 280)] (ds_ (rt (owns 0 0 3) (.tuple #[.agg #[.int .i64 0, .slice q18 m18 c18, .slice p18 k18 d18], .slice none 0 0, .int .i64 280]) ?_)))))))
     have hop := op_bad (o := o) q2
     exact fun w' hw => by rw [hop.1, hop.2]; exact ⟨_, _, _, _, _, _, _, _, _, _, _, _, rfl, hO18, hP18, SlO.nil, hw.below, (Hs.pick [[bx (γ1 2) (#[.int .i64 0, .slice q18 m18 c18, .slice p18 k18 d18]) 27], [bx (γ1 1) (#[.int .i64 now, .slice p n cap, .slice pa na ca]) 27], [bx (γ1 0) (#[.int .i64 o.kind, .int .i64 o.vcpu, .int .i64 o.al.vcpu, .int .i64 o.al.port, .int .i64 o.al.every, .int .i64 o.time, .bool o.on]) 34], Y18, Yx18] [3, 4] [0, 1, 2] (by kernel_rfl) hw)⟩
    ·
     refine qa [(0, .no)] [2, 3, 4, 5, 10] [(33, .bool false)] ([¬ ((kdV o.kind : Int) = (2 : Int))]) (al1 q15) (ds_ (f_ (sq_ ?_)))
     by_cases q23 : (kdV o.kind : Int) = (3 : Int)
     ·
      refine qa [(0, .yes)] [2, 3, 4, 5, 10] [(42, .bool true)] ([(kdV o.kind : Int) = (3 : Int)]) (al1 q23) (ds_ (t_ (at_calmTo (f := 6) 6 rfl (by kernel_rfl) (by kernel_rfl) (by kernel_rfl) (by kernel_rfl) (by kernel_rfl) (by kernel_rfl) ?_)))
      refine cm 5 [(0, .go (owns 1 0 3)), (2, .go (owns 2 1 1)), (3, .go (owns 2 0 7)), (4, .go (owns 1 0 3))] [4, 5] [(45, .agg #[.int .i64 now, .slice p n cap, .slice pa na ca]), (47, .int .i64 o.vcpu), (48, .agg #[.int .i64 o.kind, .int .i64 o.vcpu, .int .i64 o.al.vcpu, .int .i64 o.al.port, .int .i64 o.al.every, .int .i64 o.time, .bool o.on]), (49, .agg #[.int .i64 now, .slice p n cap, .slice pa na ca])] ([]) (by kernel_rfl) rfl al0 ?_
      refine cK (.int .i64 (otW now o.on o.time)) (fun args w => Tryz.call14 args w) (fun w hw => otw_t o now p n cap ts pa na ca rs w) ?_
      refine calm_nil' ?_
      refine done_pre (li' := #[true, true, true, true, true, true, false, false, false, false, false, false]) (by kernel_rfl) ?_
      refine any_cutX (V := (List Ob) × (List Ob) × (Nat) × (Nat) × (Nat) × (Nat) × (Option Addr) × (Option Addr)) (fun ⟨Y149, Yx149, c149, d149, k149, m149, p149, q149⟩ => SlO 42 Y149 q149 m149 c149 ([] : List Tim) ∧ SlO 32 Yx149 p149 k149 d149 ([] : List Alm)) 0 #[true, true, true, true, true, true, true, true, true, true, true, true] (fun ⟨Y149, Yx149, c149, d149, k149, m149, p149, q149⟩ => [(4, .pointer (some ⟨γ1 2, 0, none⟩)), (5, .slice none 0 0), (6, .int .i64 280)]) (fun ⟨Y149, Yx149, c149, d149, k149, m149, p149, q149⟩ => bx (γ1 2) (#[.int .i64 0, .slice q149 m149 c149, .slice p149 k149 d149]) 27 :: bx (γ1 1) (#[.int .i64 now, .slice p n cap, .slice pa na ca]) 27 :: bx (γ1 0) (#[.int .i64 o.kind, .int .i64 o.vcpu, .int .i64 o.al.vcpu, .int .i64 o.al.port, .int .i64 o.al.every, .int .i64 o.time, .bool o.on]) 34 :: (Y149 ++ (Yx149 ++ []))) ?_ (fun hmx2 => ?_)
      rotate_left
      ·
       refine any_cutX (V := (List Ob) × (List Ob) × (Nat) × (Nat) × (Nat) × (Nat) × (Option Addr) × (Option Addr)) (fun ⟨Y149, Yx149, c149, d149, k149, m149, p149, q149⟩ => SlO 42 Y149 q149 m149 c149 ([] : List Tim) ∧ SlO 32 Yx149 p149 k149 d149 ([] : List Alm)) 2 #[true, true, true, true, true, true, true, true, true, true, false, false] (fun ⟨Y149, Yx149, c149, d149, k149, m149, p149, q149⟩ => [(4, .pointer (some ⟨γ1 2, 0, none⟩)), (5, .slice none 0 0), (52, .agg #[.int .i64 0, .slice q149 m149 c149, .slice p149 k149 d149]), (53, .int .i64 280)]) (fun ⟨Y149, Yx149, c149, d149, k149, m149, p149, q149⟩ => bx (γ1 2) (#[.int .i64 0, .slice none 0 0, .slice none 0 0]) 27 :: bx (γ1 1) (#[.int .i64 now, .slice p n cap, .slice pa na ca]) 27 :: bx (γ1 0) (#[.int .i64 o.kind, .int .i64 o.vcpu, .int .i64 o.al.vcpu, .int .i64 o.al.port, .int .i64 o.al.every, .int .i64 o.time, .bool o.on]) 34 :: (Y149 ++ (Yx149 ++ []))) ?_ (fun hmx1 => ?_)
       ·
        rintro ⟨Y149, Yx149, c149, d149, k149, m149, p149, q149⟩ ⟨hO149, hP149⟩
        refine a1 10 rfl ?_
        refine mo0 1 [(10, .go (owns 0 0 3))] [4, 5, 53] (fun _ => []) (fun _ L => (L.set 0 (bx (γ1 2) (#[.int .i64 0, .slice q149 m149 c149, .slice p149 k149 d149]) 27))) (fun _ => ?_)
        refine od_ ?_
        refine tk (m := 0) [11] [] [4, 5] [(6, .int .i64 280)] ([]) #[true, true, true, true, true, true, true, true, true, true, true, true] al0 ?_
        exact wk (hmx2 (Y149, Yx149, c149, d149, k149, m149, p149, q149) ⟨hO149, hP149⟩) [4, 5, 6] [[_], [_], [_], _, _] [0, 1, 2, 3, 4] rfl rfl
       refine a1 6 rfl ?_
       refine cP (fun v L' => ∃ q_ m_ c_ Y_ q2_ m2_ c2_ X_, v = .tuple #[.agg #[.int .i64 0, .slice q_ m_ c_, .slice q2_ m2_ c2_], .int .i64 280] ∧ L' = List.take 3 ([bx (γ1 2) (#[.int .i64 0, .slice none 0 0, .slice none 0 0]) 27, bx (γ1 1) (#[.int .i64 now, .slice p n cap, .slice pa na ca]) 27, bx (γ1 0) (#[.int .i64 o.kind, .int .i64 o.vcpu, .int .i64 o.al.vcpu, .int .i64 o.al.port, .int .i64 o.al.every, .int .i64 o.time, .bool o.on]) 34]) ++ (Y_ ++ (X_ ++ List.drop 3 ([bx (γ1 2) (#[.int .i64 0, .slice none 0 0, .slice none 0 0]) 27, bx (γ1 1) (#[.int .i64 now, .slice p n cap, .slice pa na ca]) 27, bx (γ1 0) (#[.int .i64 o.kind, .int .i64 o.vcpu, .int .i64 o.al.vcpu, .int .i64 o.al.port, .int .i64 o.al.every, .int .i64 o.time, .bool o.on]) 34]))) ∧ SlO 42 Y_ q_ m_ c_ ([] : List Tim) ∧ SlO 32 X_ q2_ m2_ c2_ ([] : List Alm)) (fun args w => Tryz.call16 args w) (fun w hw => by have := sleep_t now p n cap ts pa na ca rs o.vcpu (otW now o.on o.time) w (hts.kept hw.below) hn (by omega) (hrs.kept hw.below) hna (by omega); rw [sleepV_bad q2] at this; exact this.mono fun e w' ⟨q_, m_, c_, Y_, q2_, m2_, c2_, X_, he, h1, h2, hb, hY⟩ => ⟨_, _, he, ⟨q_, m_, c_, Y_, q2_, m2_, c2_, X_, rfl, rfl, h1, h2⟩, hw.joinT hb hY 3⟩) ?_
       rintro v149 L149 ⟨q149, m149, c149, Y149, p149, k149, d149, Yx149, rfl, rfl, hO149, hP149⟩
       have hm149 := hO149.len
       have hn149 := hP149.len
       simp only [List.length_cons, List.length_nil] at hm149
       simp only [List.length_cons, List.length_nil] at hn149
       refine od_ ?_
       refine tk (m := 2) [7, 8, 9] [] [4, 5] [(52, .agg #[.int .i64 0, .slice q149 m149 c149, .slice p149 k149 d149]), (53, .int .i64 280)] ([]) #[true, true, true, true, true, true, true, true, true, true, false, false] al0 ?_
       exact wk (hmx1 (Y149, Yx149, c149, d149, k149, m149, p149, q149) ⟨hO149, hP149⟩) [4, 5, 52, 53] [[_], [_], [_], _, _] [0, 1, 2, 3, 4] rfl rfl
      rintro ⟨Y149, Yx149, c149, d149, k149, m149, p149, q149⟩ ⟨hO149, hP149⟩
      refine any_nil (by kernel_rfl) ?_
      refine done_block (ds_ (sq_ (qa0 [(0, .go (owns 0 0 3)), (3, .go (owns 0 0 3))] [4] [(5, .slice none 0 0), (6, .int .i64 280)] (ds_ (rt (owns 0 0 3) (.tuple #[.agg #[.int .i64 0, .slice q149 m149 c149, .slice p149 k149 d149], .slice none 0 0, .int .i64 280]) ?_)))))
      have hop := op_bad (o := o) q2
      exact fun w' hw => by rw [hop.1, hop.2]; exact ⟨_, _, _, _, _, _, _, _, _, _, _, _, rfl, hO149, hP149, SlO.nil, hw.below, (Hs.pick [[bx (γ1 2) (#[.int .i64 0, .slice q149 m149 c149, .slice p149 k149 d149]) 27], [bx (γ1 1) (#[.int .i64 now, .slice p n cap, .slice pa na ca]) 27], [bx (γ1 0) (#[.int .i64 o.kind, .int .i64 o.vcpu, .int .i64 o.al.vcpu, .int .i64 o.al.port, .int .i64 o.al.every, .int .i64 o.time, .bool o.on]) 34], Y149, Yx149] [3, 4] [0, 1, 2] (by kernel_rfl) hw)⟩
     ·
      refine qa [(0, .no)] [2, 3, 4, 5, 10] [(42, .bool false)] ([¬ ((kdV o.kind : Int) = (3 : Int))]) (al1 q23) (ds_ (f_ (sq_ ?_)))
      by_cases q315 : (kdV o.kind : Int) = (4 : Int)
      ·
       refine qa [(0, .yes)] [2, 3, 4, 5] [(54, .bool true)] ([(kdV o.kind : Int) = (4 : Int)]) (al1 q315) (ds_ (t_ (ao_ (qo0 3 [(0, .go (owns 1 0 3)), (2, .go (owns 2 1 1))] [4, 5] [(57, .agg #[.int .i64 now, .slice p n cap, .slice pa na ca]), (59, .int .i64 o.vcpu)] (cP (fun v L' => ∃ q_ m_ c_ Y_ q2_ m2_ c2_ X_, v = .tuple #[.agg #[.int .i64 0, .slice q_ m_ c_, .slice q2_ m2_ c2_], .int .i64 280] ∧ L' = List.take 3 ([bx (γ1 2) (#[.int .i64 0, .slice none 0 0, .slice none 0 0]) 27, bx (γ1 1) (#[.int .i64 now, .slice p n cap, .slice pa na ca]) 27, bx (γ1 0) (#[.int .i64 o.kind, .int .i64 o.vcpu, .int .i64 o.al.vcpu, .int .i64 o.al.port, .int .i64 o.al.every, .int .i64 o.time, .bool o.on]) 34]) ++ (Y_ ++ (X_ ++ List.drop 3 ([bx (γ1 2) (#[.int .i64 0, .slice none 0 0, .slice none 0 0]) 27, bx (γ1 1) (#[.int .i64 now, .slice p n cap, .slice pa na ca]) 27, bx (γ1 0) (#[.int .i64 o.kind, .int .i64 o.vcpu, .int .i64 o.al.vcpu, .int .i64 o.al.port, .int .i64 o.al.every, .int .i64 o.time, .bool o.on]) 34]))) ∧ SlO 42 Y_ q_ m_ c_ ([] : List Tim) ∧ SlO 32 X_ q2_ m2_ c2_ ([] : List Alm)) (fun args w => Tryz.call17 args w) (fun w hw => by have := wake_t now p n cap ts pa na ca rs o.vcpu w (hts.kept hw.below) hn (by omega) (hrs.kept hw.below) hna (by omega); rw [wakeV_bad q2] at this; exact this.mono fun e w' ⟨q_, m_, c_, Y_, q2_, m2_, c2_, X_, he, h1, h2, hb, hY⟩ => ⟨_, _, he, ⟨q_, m_, c_, Y_, q2_, m2_, c2_, X_, rfl, rfl, h1, h2⟩, hw.joinT hb hY 3⟩) ?_)))))
       rintro v318 L318 ⟨q318, m318, c318, Y318, p318, k318, d318, Yx318, rfl, rfl, hO318, hP318⟩
       have hm318 := hO318.len
       have hn318 := hP318.len
       simp only [List.length_cons, List.length_nil] at hm318
       simp only [List.length_cons, List.length_nil] at hn318
       refine mo0 5 [(7, .go (owns 0 0 3))] [4, 5] (fun _ => [(6, .int .i64 280)]) (fun _ L => (L.set 0 (bx (γ1 2) (#[.int .i64 0, .slice q318 m318 c318, .slice p318 k318 d318]) 27))) (fun _ => on_ (done_block (ds_ (sq_ (qa0 [(0, .go (owns 0 0 3)), (3, .go (owns 0 0 3))] [4] [(5, .slice none 0 0), (6, .int .i64 280)] (ds_ (rt (owns 0 0 3) (.tuple #[.agg #[.int .i64 0, .slice q318 m318 c318, .slice p318 k318 d318], .slice none 0 0, .int .i64 280]) ?_)))))))
       have hop := op_bad (o := o) q2
       exact fun w' hw => by rw [hop.1, hop.2]; exact ⟨_, _, _, _, _, _, _, _, _, _, _, _, rfl, hO318, hP318, SlO.nil, hw.below, (Hs.pick [[bx (γ1 2) (#[.int .i64 0, .slice q318 m318 c318, .slice p318 k318 d318]) 27], [bx (γ1 1) (#[.int .i64 now, .slice p n cap, .slice pa na ca]) 27], [bx (γ1 0) (#[.int .i64 o.kind, .int .i64 o.vcpu, .int .i64 o.al.vcpu, .int .i64 o.al.port, .int .i64 o.al.every, .int .i64 o.time, .bool o.on]) 34], Y318, Yx318] [3, 4] [0, 1, 2] (by kernel_rfl) hw)⟩
      ·
       refine qa [(0, .no)] [2, 3, 4, 5] [(54, .bool false)] ([¬ ((kdV o.kind : Int) = (4 : Int))]) (al1 q315) (ds_ (f_ (at_calmTo (f := 8) 4 rfl (by kernel_rfl) (by kernel_rfl) (by kernel_rfl) (by kernel_rfl) (by kernel_rfl) (by kernel_rfl) ?_)))
       refine cm 3 [(0, .go (owns 1 0 3)), (1, .go (owns 2 0 7)), (2, .go (owns 1 0 3))] [4] [(12, .agg #[.int .i64 now, .slice p n cap, .slice pa na ca]), (13, .agg #[.int .i64 o.kind, .int .i64 o.vcpu, .int .i64 o.al.vcpu, .int .i64 o.al.port, .int .i64 o.al.every, .int .i64 o.time, .bool o.on]), (14, .agg #[.int .i64 now, .slice p n cap, .slice pa na ca])] ([]) (by kernel_rfl) rfl al0 ?_
       refine cK (.int .i64 (otW now o.on o.time)) (fun args w => Tryz.call14 args w) (fun w hw => otw_t o now p n cap ts pa na ca rs w) ?_
       refine calm_nil' ?_
       refine done_pre (li' := #[true, true, true, true, false, false, false, false, false, false, false, false]) (by kernel_rfl) ?_
       refine any_cutX (V := (List Ob) × (List Ob) × (List Ob) × (Nat) × (Nat) × (Nat) × (Nat) × (Nat) × (Nat) × (Option Addr) × (Option Addr) × (Option Addr)) (fun ⟨Y406, Yx406, Yz406, c406, d406, dz406, k406, kz406, m406, p406, pz406, q406⟩ => SlO 42 Y406 q406 m406 c406 ([] : List Tim) ∧ SlO 32 Yx406 p406 k406 d406 ([] : List Alm) ∧ SlO 50 Yz406 pz406 kz406 dz406 ([] : List Rng)) 0 #[true, true, true, true, true, true, true, true, true, true, true, true] (fun ⟨Y406, Yx406, Yz406, c406, d406, dz406, k406, kz406, m406, p406, pz406, q406⟩ => [(4, .pointer (some ⟨γ1 2, 0, none⟩)), (5, .slice pz406 kz406 dz406), (6, .int .i64 280)]) (fun ⟨Y406, Yx406, Yz406, c406, d406, dz406, k406, kz406, m406, p406, pz406, q406⟩ => bx (γ1 2) (#[.int .i64 0, .slice q406 m406 c406, .slice p406 k406 d406]) 27 :: bx (γ1 1) (#[.int .i64 now, .slice p n cap, .slice pa na ca]) 27 :: bx (γ1 0) (#[.int .i64 o.kind, .int .i64 o.vcpu, .int .i64 o.al.vcpu, .int .i64 o.al.port, .int .i64 o.al.every, .int .i64 o.time, .bool o.on]) 34 :: (Y406 ++ (Yx406 ++ (Yz406 ++ [])))) ?_ (fun hmx2 => ?_)
       rotate_left
       ·
        refine any_cutX (V := (List Ob) × (List Ob) × (List Ob) × (Nat) × (Nat) × (Nat) × (Nat) × (Nat) × (Nat) × (Option Addr) × (Option Addr) × (Option Addr)) (fun ⟨Y406, Yx406, Yz406, c406, d406, dz406, k406, kz406, m406, p406, pz406, q406⟩ => SlO 42 Y406 q406 m406 c406 ([] : List Tim) ∧ SlO 32 Yx406 p406 k406 d406 ([] : List Alm) ∧ SlO 50 Yz406 pz406 kz406 dz406 ([] : List Rng)) 3 #[true, true, true, true, true, true, true, true, true, false, false, false] (fun ⟨Y406, Yx406, Yz406, c406, d406, dz406, k406, kz406, m406, p406, pz406, q406⟩ => [(4, .pointer (some ⟨γ1 2, 0, none⟩)), (17, .agg #[.int .i64 0, .slice q406 m406 c406, .slice p406 k406 d406]), (18, .slice pz406 kz406 dz406), (19, .int .i64 280)]) (fun ⟨Y406, Yx406, Yz406, c406, d406, dz406, k406, kz406, m406, p406, pz406, q406⟩ => bx (γ1 2) (#[.int .i64 0, .slice none 0 0, .slice none 0 0]) 27 :: bx (γ1 1) (#[.int .i64 now, .slice p n cap, .slice pa na ca]) 27 :: bx (γ1 0) (#[.int .i64 o.kind, .int .i64 o.vcpu, .int .i64 o.al.vcpu, .int .i64 o.al.port, .int .i64 o.al.every, .int .i64 o.time, .bool o.on]) 34 :: (Y406 ++ (Yx406 ++ (Yz406 ++ [])))) ?_ (fun hmx1 => ?_)
        ·
         rintro ⟨Y406, Yx406, Yz406, c406, d406, dz406, k406, kz406, m406, p406, pz406, q406⟩ ⟨hO406, hP406, hZ406⟩
         refine a1 9 rfl ?_
         refine mo0 1 [(9, .go (owns 0 0 3))] [4, 18, 19] (fun _ => []) (fun _ L => (L.set 0 (bx (γ1 2) (#[.int .i64 0, .slice q406 m406 c406, .slice p406 k406 d406]) 27))) (fun _ => ?_)
         refine od_ ?_
         refine tk (m := 0) [10, 11] [] [4] [(5, .slice pz406 kz406 dz406), (6, .int .i64 280)] ([]) #[true, true, true, true, true, true, true, true, true, true, true, true] al0 ?_
         exact wk (hmx2 (Y406, Yx406, Yz406, c406, d406, dz406, k406, kz406, m406, p406, pz406, q406) ⟨hO406, hP406, hZ406⟩) [4, 5, 6] [[_], [_], [_], _, _, _] [0, 1, 2, 3, 4, 5] rfl rfl
        refine a1 4 rfl ?_
        refine cP (fun v L' => ∃ q_ m_ c_ Y_ q2_ m2_ c2_ X_ q3_ m3_ c3_ Z_, v = .tuple #[.agg #[.int .i64 0, .slice q_ m_ c_, .slice q2_ m2_ c2_], .slice q3_ m3_ c3_, .int .i64 280] ∧ L' = List.take 3 ([bx (γ1 2) (#[.int .i64 0, .slice none 0 0, .slice none 0 0]) 27, bx (γ1 1) (#[.int .i64 now, .slice p n cap, .slice pa na ca]) 27, bx (γ1 0) (#[.int .i64 o.kind, .int .i64 o.vcpu, .int .i64 o.al.vcpu, .int .i64 o.al.port, .int .i64 o.al.every, .int .i64 o.time, .bool o.on]) 34]) ++ (Y_ ++ (X_ ++ (Z_ ++ List.drop 3 ([bx (γ1 2) (#[.int .i64 0, .slice none 0 0, .slice none 0 0]) 27, bx (γ1 1) (#[.int .i64 now, .slice p n cap, .slice pa na ca]) 27, bx (γ1 0) (#[.int .i64 o.kind, .int .i64 o.vcpu, .int .i64 o.al.vcpu, .int .i64 o.al.port, .int .i64 o.al.every, .int .i64 o.time, .bool o.on]) 34])))) ∧ SlO 42 Y_ q_ m_ c_ ([] : List Tim) ∧ SlO 32 X_ q2_ m2_ c2_ ([] : List Alm) ∧ SlO 50 Z_ q3_ m3_ c3_ ([] : List Rng)) (fun args w => Tryz.call12 args w) (fun w hw => by have := apass_t now p n cap ts pa na ca rs (otW now o.on o.time) w (hts.kept hw.below) hn (by omega) (hrs.kept hw.below) hna (by omega); rw [passA_bad q2, passR_bad q2] at this; exact this.mono fun e w' ⟨q_, m_, c_, Y_, q2_, m2_, c2_, X_, q3_, m3_, c3_, Z_, he, h1, h2, h3, hb, hY⟩ => ⟨_, _, he, ⟨q_, m_, c_, Y_, q2_, m2_, c2_, X_, q3_, m3_, c3_, Z_, rfl, rfl, h1, h2, h3⟩, hw.joinZ hb hY 3⟩) ?_
        rintro v406 L406 ⟨q406, m406, c406, Y406, p406, k406, d406, Yx406, pz406, kz406, dz406, Yz406, rfl, rfl, hO406, hP406, hZ406⟩
        have hm406 := hO406.len
        have hn406 := hP406.len
        have hz406 := hZ406.len
        simp only [List.length_cons, List.length_nil] at hm406
        simp only [List.length_cons, List.length_nil] at hn406
        simp only [List.length_cons, List.length_nil] at hz406
        refine od_ ?_
        refine tk (m := 3) [5, 6, 7, 8] [] [4] [(17, .agg #[.int .i64 0, .slice q406 m406 c406, .slice p406 k406 d406]), (18, .slice pz406 kz406 dz406), (19, .int .i64 280)] ([]) #[true, true, true, true, true, true, true, true, true, false, false, false] al0 ?_
        exact wk (hmx1 (Y406, Yx406, Yz406, c406, d406, dz406, k406, kz406, m406, p406, pz406, q406) ⟨hO406, hP406, hZ406⟩) [4, 17, 18, 19] [[_], [_], [_], _, _, _] [0, 1, 2, 3, 4, 5] rfl rfl
       rintro ⟨Y406, Yx406, Yz406, c406, d406, dz406, k406, kz406, m406, p406, pz406, q406⟩ ⟨hO406, hP406, hZ406⟩
       refine any_nil (by kernel_rfl) ?_
       refine done_block (ds_ (sq_ (qa0 [(0, .go (owns 0 0 3)), (3, .go (owns 0 0 3))] [4] [(5, .slice pz406 kz406 dz406), (6, .int .i64 280)] (ds_ (rt (owns 0 0 3) (.tuple #[.agg #[.int .i64 0, .slice q406 m406 c406, .slice p406 k406 d406], .slice pz406 kz406 dz406, .int .i64 280]) ?_)))))
       have hop := op_bad (o := o) q2
       exact fun w' hw => by rw [hop.1, hop.2]; exact ⟨_, _, _, _, _, _, _, _, _, _, _, _, rfl, hO406, hP406, hZ406, hw.below, three_tails (Hs.pick [[bx (γ1 2) (#[.int .i64 0, .slice q406 m406 c406, .slice p406 k406 d406]) 27], [bx (γ1 1) (#[.int .i64 now, .slice p n cap, .slice pa na ca]) 27], [bx (γ1 0) (#[.int .i64 o.kind, .int .i64 o.vcpu, .int .i64 o.al.vcpu, .int .i64 o.al.port, .int .i64 o.al.every, .int .i64 o.time, .bool o.on]) 34], Y406, Yx406, Yz406] [3, 4, 5] [0, 1, 2] (by kernel_rfl) hw)⟩
   ·
    refine t_ (at_calmTo (f := 6) 6 rfl (by kernel_rfl) (by kernel_rfl) (by kernel_rfl) (by kernel_rfl) (by kernel_rfl) (by kernel_rfl) ?_)
    refine cm 5 [(0, .go (owns 1 0 3)), (2, .go (owns 2 2 3)), (3, .go (owns 2 0 7)), (4, .go (owns 1 0 3))] [4, 5] [(24, .agg #[.int .i64 now, .slice p n cap, .slice pa na ca]), (26, .agg #[.int .i64 o.al.vcpu, .int .i64 o.al.port, .int .i64 o.al.every]), (27, .agg #[.int .i64 o.kind, .int .i64 o.vcpu, .int .i64 o.al.vcpu, .int .i64 o.al.port, .int .i64 o.al.every, .int .i64 o.time, .bool o.on]), (28, .agg #[.int .i64 now, .slice p n cap, .slice pa na ca])] ([]) (by kernel_rfl) rfl al0 ?_
    refine cK (.int .i64 (otW now o.on o.time)) (fun args w => Tryz.call14 args w) (fun w hw => otw_t o now p n cap ts pa na ca rs w) ?_
    refine calm_nil' ?_
    refine done_pre (li' := #[true, true, true, true, true, true, false, false, false, false, false, false]) (by kernel_rfl) ?_
    refine any_cutX (V := (List Ob) × (List Ob) × (Nat) × (Nat) × (Nat) × (Nat) × (Option Addr) × (Option Addr)) (fun ⟨Y734, Yx734, c734, d734, k734, m734, p734, q734⟩ => SlO 42 Y734 q734 m734 c734 ([] : List Tim) ∧ SlO 32 Yx734 p734 k734 d734 ([] : List Alm)) 0 #[true, true, true, true, true, true, true, true, true, true, true, true] (fun ⟨Y734, Yx734, c734, d734, k734, m734, p734, q734⟩ => [(4, .pointer (some ⟨γ1 2, 0, none⟩)), (5, .slice none 0 0), (6, .int .i64 280)]) (fun ⟨Y734, Yx734, c734, d734, k734, m734, p734, q734⟩ => bx (γ1 2) (#[.int .i64 0, .slice q734 m734 c734, .slice p734 k734 d734]) 27 :: bx (γ1 1) (#[.int .i64 now, .slice p n cap, .slice pa na ca]) 27 :: bx (γ1 0) (#[.int .i64 o.kind, .int .i64 o.vcpu, .int .i64 o.al.vcpu, .int .i64 o.al.port, .int .i64 o.al.every, .int .i64 o.time, .bool o.on]) 34 :: (Y734 ++ (Yx734 ++ []))) ?_ (fun hmx2 => ?_)
    rotate_left
    ·
     refine any_cutX (V := (List Ob) × (List Ob) × (Nat) × (Nat) × (Nat) × (Nat) × (Option Addr) × (Option Addr)) (fun ⟨Y734, Yx734, c734, d734, k734, m734, p734, q734⟩ => SlO 42 Y734 q734 m734 c734 ([] : List Tim) ∧ SlO 32 Yx734 p734 k734 d734 ([] : List Alm)) 2 #[true, true, true, true, true, true, true, true, true, true, false, false] (fun ⟨Y734, Yx734, c734, d734, k734, m734, p734, q734⟩ => [(4, .pointer (some ⟨γ1 2, 0, none⟩)), (5, .slice none 0 0), (31, .agg #[.int .i64 0, .slice q734 m734 c734, .slice p734 k734 d734]), (32, .int .i64 280)]) (fun ⟨Y734, Yx734, c734, d734, k734, m734, p734, q734⟩ => bx (γ1 2) (#[.int .i64 0, .slice none 0 0, .slice none 0 0]) 27 :: bx (γ1 1) (#[.int .i64 now, .slice p n cap, .slice pa na ca]) 27 :: bx (γ1 0) (#[.int .i64 o.kind, .int .i64 o.vcpu, .int .i64 o.al.vcpu, .int .i64 o.al.port, .int .i64 o.al.every, .int .i64 o.time, .bool o.on]) 34 :: (Y734 ++ (Yx734 ++ []))) ?_ (fun hmx1 => ?_)
     ·
      rintro ⟨Y734, Yx734, c734, d734, k734, m734, p734, q734⟩ ⟨hO734, hP734⟩
      refine a1 10 rfl ?_
      refine mo0 1 [(10, .go (owns 0 0 3))] [4, 5, 32] (fun _ => []) (fun _ L => (L.set 0 (bx (γ1 2) (#[.int .i64 0, .slice q734 m734 c734, .slice p734 k734 d734]) 27))) (fun _ => ?_)
      refine od_ ?_
      refine tk (m := 0) [11] [] [4, 5] [(6, .int .i64 280)] ([]) #[true, true, true, true, true, true, true, true, true, true, true, true] al0 ?_
      exact wk (hmx2 (Y734, Yx734, c734, d734, k734, m734, p734, q734) ⟨hO734, hP734⟩) [4, 5, 6] [[_], [_], [_], _, _] [0, 1, 2, 3, 4] rfl rfl
     refine a1 6 rfl ?_
     refine cP (fun v L' => ∃ q_ m_ c_ Y_ q2_ m2_ c2_ X_, v = .tuple #[.agg #[.int .i64 0, .slice q_ m_ c_, .slice q2_ m2_ c2_], .int .i64 280] ∧ L' = List.take 3 ([bx (γ1 2) (#[.int .i64 0, .slice none 0 0, .slice none 0 0]) 27, bx (γ1 1) (#[.int .i64 now, .slice p n cap, .slice pa na ca]) 27, bx (γ1 0) (#[.int .i64 o.kind, .int .i64 o.vcpu, .int .i64 o.al.vcpu, .int .i64 o.al.port, .int .i64 o.al.every, .int .i64 o.time, .bool o.on]) 34]) ++ (Y_ ++ (X_ ++ List.drop 3 ([bx (γ1 2) (#[.int .i64 0, .slice none 0 0, .slice none 0 0]) 27, bx (γ1 1) (#[.int .i64 now, .slice p n cap, .slice pa na ca]) 27, bx (γ1 0) (#[.int .i64 o.kind, .int .i64 o.vcpu, .int .i64 o.al.vcpu, .int .i64 o.al.port, .int .i64 o.al.every, .int .i64 o.time, .bool o.on]) 34]))) ∧ SlO 42 Y_ q_ m_ c_ ([] : List Tim) ∧ SlO 32 X_ q2_ m2_ c2_ ([] : List Alm)) (fun args w => Tryz.call11 args w) (fun w hw => by have := start_t now p n cap ts pa na ca rs o.al (otW now o.on o.time) w (hts.kept hw.below) hn (by omega) (hrs.kept hw.below) hna (by omega); rw [startV_bad q2] at this; exact this.mono fun e w' ⟨q_, m_, c_, Y_, q2_, m2_, c2_, X_, he, h1, h2, hb, hY⟩ => ⟨_, _, he, ⟨q_, m_, c_, Y_, q2_, m2_, c2_, X_, rfl, rfl, h1, h2⟩, hw.joinT hb hY 3⟩) ?_
     rintro v734 L734 ⟨q734, m734, c734, Y734, p734, k734, d734, Yx734, rfl, rfl, hO734, hP734⟩
     have hm734 := hO734.len
     have hn734 := hP734.len
     simp only [List.length_cons, List.length_nil] at hm734
     simp only [List.length_cons, List.length_nil] at hn734
     refine od_ ?_
     refine tk (m := 2) [7, 8, 9] [] [4, 5] [(31, .agg #[.int .i64 0, .slice q734 m734 c734, .slice p734 k734 d734]), (32, .int .i64 280)] ([]) #[true, true, true, true, true, true, true, true, true, true, false, false] al0 ?_
     exact wk (hmx1 (Y734, Yx734, c734, d734, k734, m734, p734, q734) ⟨hO734, hP734⟩) [4, 5, 31, 32] [[_], [_], [_], _, _] [0, 1, 2, 3, 4] rfl rfl
    rintro ⟨Y734, Yx734, c734, d734, k734, m734, p734, q734⟩ ⟨hO734, hP734⟩
    refine any_nil (by kernel_rfl) ?_
    refine done_block (ds_ (sq_ (qa0 [(0, .go (owns 0 0 3)), (3, .go (owns 0 0 3))] [4] [(5, .slice none 0 0), (6, .int .i64 280)] (ds_ (rt (owns 0 0 3) (.tuple #[.agg #[.int .i64 0, .slice q734 m734 c734, .slice p734 k734 d734], .slice none 0 0, .int .i64 280]) ?_)))))
    have hop := op_bad (o := o) q2
    exact fun w' hw => by rw [hop.1, hop.2]; exact ⟨_, _, _, _, _, _, _, _, _, _, _, _, rfl, hO734, hP734, SlO.nil, hw.below, (Hs.pick [[bx (γ1 2) (#[.int .i64 0, .slice q734 m734 c734, .slice p734 k734 d734]) 27], [bx (γ1 1) (#[.int .i64 now, .slice p n cap, .slice pa na ca]) 27], [bx (γ1 0) (#[.int .i64 o.kind, .int .i64 o.vcpu, .int .i64 o.al.vcpu, .int .i64 o.al.port, .int .i64 o.al.every, .int .i64 o.time, .bool o.on]) 34], Y734, Yx734] [3, 4] [0, 1, 2] (by kernel_rfl) hw)⟩
 ·
  refine qa0 [(1, .go (owns 2 0 1))] [2, 3, 4, 5] [(10, .int .u64 (kdV o.kind))] (ds_ (at_block (at_cutS [(2, .pointer (some ⟨γ1 0, 0, none⟩)), (3, .pointer (some ⟨γ1 1, 0, none⟩)), (4, .pointer (some ⟨γ1 2, 0, none⟩)), (5, .slice none 0 0), (10, .int .u64 (kdV o.kind)), (20, .bool (decide (kdV o.kind = 0 ∨ kdV o.kind = 1)))] (fun hm899 => ?_) ?_)))
  ·
   refine sq_ ?_
   by_cases q901 : (kdV o.kind : Int) = (0 : Int)
   ·
    refine qa [(0, .yes)] [2, 3, 4, 5, 10] [(20, .bool true)] ([(kdV o.kind : Int) = (0 : Int)]) (al1 q901) (ds_ (t_ (at_skip ?_)))
    exact hm899.weakS [2, 3, 4, 5, 10, 20] (by rw [show decide (kdV o.kind = 0 ∨ kdV o.kind = 1) = true from decide_eq_true (.inl q901)]; kernel_rfl)
   ·
    refine qa [(0, .no)] [2, 3, 4, 5, 10] [(20, .bool false)] ([¬ ((kdV o.kind : Int) = (0 : Int))]) (al1 q901) (ds_ (f_ ?_))
    by_cases q905 : (kdV o.kind : Int) = (1 : Int)
    ·
     refine qa [(0, .yes)] [2, 3, 4, 5, 10] [(20, .bool true)] ([(kdV o.kind : Int) = (1 : Int)]) (al1 q905) ?_
     exact hm899.weakS [2, 3, 4, 5, 10, 20] (by rw [show decide (kdV o.kind = 0 ∨ kdV o.kind = 1) = true from decide_eq_true (.inr q905)]; kernel_rfl)
    ·
     refine qa [(0, .no)] [2, 3, 4, 5, 10] [(20, .bool false)] ([¬ ((kdV o.kind : Int) = (1 : Int))]) (al1 q905) ?_
     exact hm899.weakS [2, 3, 4, 5, 10, 20] (by rw [show decide (kdV o.kind = 0 ∨ kdV o.kind = 1) = false from decide_eq_false (fun h => h.elim q901 q905)]; kernel_rfl)
  ·
   rcases q908 : decide (kdV o.kind = 0 ∨ kdV o.kind = 1) with _ | _
   ·
    refine f_ (sq_ ?_)
    by_cases q910 : (kdV o.kind : Int) = (2 : Int)
    ·
     refine qa [(0, .yes)] [2, 3, 4, 5, 10] [(33, .bool true)] ([(kdV o.kind : Int) = (2 : Int)]) (al1 q910) (ds_ (t_ (ao_ (qo0 3 [(0, .go (owns 1 0 3)), (2, .go (owns 2 1 1))] [4, 5] [(36, .agg #[.int .i64 now, .slice p n cap, .slice pa na ca]), (38, .int .i64 o.vcpu)] (cP (fun v L' => ∃ q_ m_ c_ Y_ q2_ m2_ c2_ X_, v = .tuple #[.agg #[.int .i64 ((stopV now ts rs o.vcpu).1), .slice q_ m_ c_, .slice q2_ m2_ c2_], .int .i64 ((stopV now ts rs o.vcpu).2.2.2)] ∧ L' = List.take 3 ([bx (γ1 2) (#[.int .i64 0, .slice none 0 0, .slice none 0 0]) 27, bx (γ1 1) (#[.int .i64 now, .slice p n cap, .slice pa na ca]) 27, bx (γ1 0) (#[.int .i64 o.kind, .int .i64 o.vcpu, .int .i64 o.al.vcpu, .int .i64 o.al.port, .int .i64 o.al.every, .int .i64 o.time, .bool o.on]) 34]) ++ (Y_ ++ (X_ ++ List.drop 3 ([bx (γ1 2) (#[.int .i64 0, .slice none 0 0, .slice none 0 0]) 27, bx (γ1 1) (#[.int .i64 now, .slice p n cap, .slice pa na ca]) 27, bx (γ1 0) (#[.int .i64 o.kind, .int .i64 o.vcpu, .int .i64 o.al.vcpu, .int .i64 o.al.port, .int .i64 o.al.every, .int .i64 o.time, .bool o.on]) 34]))) ∧ SlO 42 Y_ q_ m_ c_ ((stopV now ts rs o.vcpu).2.1) ∧ SlO 32 X_ q2_ m2_ c2_ ((stopV now ts rs o.vcpu).2.2.1)) (fun args w => Tryz.call15 args w) (fun w hw => (stop_t now p n cap ts pa na ca rs o.vcpu w (hts.kept hw.below) hn (by omega) (hrs.kept hw.below) hna (by omega)).mono fun e w' ⟨q_, m_, c_, Y_, q2_, m2_, c2_, X_, he, h1, h2, hb, hY⟩ => ⟨_, _, he, ⟨q_, m_, c_, Y_, q2_, m2_, c2_, X_, rfl, rfl, h1, h2⟩, hw.joinT hb hY 3⟩) ?_)))))
     rintro v913 L913 ⟨q913, m913, c913, Y913, p913, k913, d913, Yx913, rfl, rfl, hO913, hP913⟩
     refine mo0 5 [(7, .go (owns 0 0 3))] [4, 5] (fun _ => [(6, .int .i64 ((stopV now ts rs o.vcpu).2.2.2))]) (fun _ L => (L.set 0 (bx (γ1 2) (#[.int .i64 ((stopV now ts rs o.vcpu).1), .slice q913 m913 c913, .slice p913 k913 d913]) 27))) (fun _ => on_ (done_block (ds_ (sq_ (qa0 [(0, .go (owns 0 0 3)), (3, .go (owns 0 0 3))] [4] [(5, .slice none 0 0), (6, .int .i64 ((stopV now ts rs o.vcpu).2.2.2))] (ds_ (rt (owns 0 0 3) (.tuple #[.agg #[.int .i64 ((stopV now ts rs o.vcpu).1), .slice q913 m913 c913, .slice p913 k913 d913], .slice none 0 0, .int .i64 ((stopV now ts rs o.vcpu).2.2.2)]) ?_)))))))
     have hop := op_2 q910 (now := now) (ts := ts) (rs := rs) (o := o)
     exact fun w' hw => by rw [hop.1, hop.2]; exact ⟨_, _, _, _, _, _, _, _, _, _, _, _, rfl, hO913, hP913, SlO.nil, hw.below, (Hs.pick [[bx (γ1 2) (#[.int .i64 ((stopV now ts rs o.vcpu).1), .slice q913 m913 c913, .slice p913 k913 d913]) 27], [bx (γ1 1) (#[.int .i64 now, .slice p n cap, .slice pa na ca]) 27], [bx (γ1 0) (#[.int .i64 o.kind, .int .i64 o.vcpu, .int .i64 o.al.vcpu, .int .i64 o.al.port, .int .i64 o.al.every, .int .i64 o.time, .bool o.on]) 34], Y913, Yx913] [3, 4] [0, 1, 2] (by kernel_rfl) hw)⟩
    ·
     refine qa [(0, .no)] [2, 3, 4, 5, 10] [(33, .bool false)] ([¬ ((kdV o.kind : Int) = (2 : Int))]) (al1 q910) (ds_ (f_ (sq_ ?_)))
     by_cases q918 : (kdV o.kind : Int) = (3 : Int)
     ·
      refine qa [(0, .yes)] [2, 3, 4, 5, 10] [(42, .bool true)] ([(kdV o.kind : Int) = (3 : Int)]) (al1 q918) (ds_ (t_ (at_calmTo (f := 6) 6 rfl (by kernel_rfl) (by kernel_rfl) (by kernel_rfl) (by kernel_rfl) (by kernel_rfl) (by kernel_rfl) ?_)))
      refine cm 5 [(0, .go (owns 1 0 3)), (2, .go (owns 2 1 1)), (3, .go (owns 2 0 7)), (4, .go (owns 1 0 3))] [4, 5] [(45, .agg #[.int .i64 now, .slice p n cap, .slice pa na ca]), (47, .int .i64 o.vcpu), (48, .agg #[.int .i64 o.kind, .int .i64 o.vcpu, .int .i64 o.al.vcpu, .int .i64 o.al.port, .int .i64 o.al.every, .int .i64 o.time, .bool o.on]), (49, .agg #[.int .i64 now, .slice p n cap, .slice pa na ca])] ([]) (by kernel_rfl) rfl al0 ?_
      refine cK (.int .i64 (otV now o.on o.time)) (fun args w => Tryz.call14 args w) (fun w hw => ot_t o now p n cap ts pa na ca rs w (al_iff.1 q2).gw.n0 (al_iff.1 q2).gw.n1) ?_
      refine calm_nil' ?_
      refine done_pre (li' := #[true, true, true, true, true, true, false, false, false, false, false, false]) (by kernel_rfl) ?_
      refine any_cutX (V := (List Ob) × (List Ob) × (Nat) × (Nat) × (Nat) × (Nat) × (Option Addr) × (Option Addr)) (fun ⟨Y1044, Yx1044, c1044, d1044, k1044, m1044, p1044, q1044⟩ => SlO 42 Y1044 q1044 m1044 c1044 ((sleepV now ts rs o.vcpu (otV now o.on o.time)).2.1) ∧ SlO 32 Yx1044 p1044 k1044 d1044 ((sleepV now ts rs o.vcpu (otV now o.on o.time)).2.2.1)) 0 #[true, true, true, true, true, true, true, true, true, true, true, true] (fun ⟨Y1044, Yx1044, c1044, d1044, k1044, m1044, p1044, q1044⟩ => [(4, .pointer (some ⟨γ1 2, 0, none⟩)), (5, .slice none 0 0), (6, .int .i64 ((sleepV now ts rs o.vcpu (otV now o.on o.time)).2.2.2))]) (fun ⟨Y1044, Yx1044, c1044, d1044, k1044, m1044, p1044, q1044⟩ => bx (γ1 2) (#[.int .i64 ((sleepV now ts rs o.vcpu (otV now o.on o.time)).1), .slice q1044 m1044 c1044, .slice p1044 k1044 d1044]) 27 :: bx (γ1 1) (#[.int .i64 now, .slice p n cap, .slice pa na ca]) 27 :: bx (γ1 0) (#[.int .i64 o.kind, .int .i64 o.vcpu, .int .i64 o.al.vcpu, .int .i64 o.al.port, .int .i64 o.al.every, .int .i64 o.time, .bool o.on]) 34 :: (Y1044 ++ (Yx1044 ++ []))) ?_ (fun hmx2 => ?_)
      rotate_left
      ·
       refine any_cutX (V := (List Ob) × (List Ob) × (Nat) × (Nat) × (Nat) × (Nat) × (Option Addr) × (Option Addr)) (fun ⟨Y1044, Yx1044, c1044, d1044, k1044, m1044, p1044, q1044⟩ => SlO 42 Y1044 q1044 m1044 c1044 ((sleepV now ts rs o.vcpu (otV now o.on o.time)).2.1) ∧ SlO 32 Yx1044 p1044 k1044 d1044 ((sleepV now ts rs o.vcpu (otV now o.on o.time)).2.2.1)) 2 #[true, true, true, true, true, true, true, true, true, true, false, false] (fun ⟨Y1044, Yx1044, c1044, d1044, k1044, m1044, p1044, q1044⟩ => [(4, .pointer (some ⟨γ1 2, 0, none⟩)), (5, .slice none 0 0), (52, .agg #[.int .i64 ((sleepV now ts rs o.vcpu (otV now o.on o.time)).1), .slice q1044 m1044 c1044, .slice p1044 k1044 d1044]), (53, .int .i64 ((sleepV now ts rs o.vcpu (otV now o.on o.time)).2.2.2))]) (fun ⟨Y1044, Yx1044, c1044, d1044, k1044, m1044, p1044, q1044⟩ => bx (γ1 2) (#[.int .i64 0, .slice none 0 0, .slice none 0 0]) 27 :: bx (γ1 1) (#[.int .i64 now, .slice p n cap, .slice pa na ca]) 27 :: bx (γ1 0) (#[.int .i64 o.kind, .int .i64 o.vcpu, .int .i64 o.al.vcpu, .int .i64 o.al.port, .int .i64 o.al.every, .int .i64 o.time, .bool o.on]) 34 :: (Y1044 ++ (Yx1044 ++ []))) ?_ (fun hmx1 => ?_)
       ·
        rintro ⟨Y1044, Yx1044, c1044, d1044, k1044, m1044, p1044, q1044⟩ ⟨hO1044, hP1044⟩
        refine a1 10 rfl ?_
        refine mo0 1 [(10, .go (owns 0 0 3))] [4, 5, 53] (fun _ => []) (fun _ L => (L.set 0 (bx (γ1 2) (#[.int .i64 ((sleepV now ts rs o.vcpu (otV now o.on o.time)).1), .slice q1044 m1044 c1044, .slice p1044 k1044 d1044]) 27))) (fun _ => ?_)
        refine od_ ?_
        refine tk (m := 0) [11] [] [4, 5] [(6, .int .i64 ((sleepV now ts rs o.vcpu (otV now o.on o.time)).2.2.2))] ([]) #[true, true, true, true, true, true, true, true, true, true, true, true] al0 ?_
        exact wk (hmx2 (Y1044, Yx1044, c1044, d1044, k1044, m1044, p1044, q1044) ⟨hO1044, hP1044⟩) [4, 5, 6] [[_], [_], [_], _, _] [0, 1, 2, 3, 4] rfl rfl
       refine a1 6 rfl ?_
       refine cP (fun v L' => ∃ q_ m_ c_ Y_ q2_ m2_ c2_ X_, v = .tuple #[.agg #[.int .i64 ((sleepV now ts rs o.vcpu (otV now o.on o.time)).1), .slice q_ m_ c_, .slice q2_ m2_ c2_], .int .i64 ((sleepV now ts rs o.vcpu (otV now o.on o.time)).2.2.2)] ∧ L' = List.take 3 ([bx (γ1 2) (#[.int .i64 0, .slice none 0 0, .slice none 0 0]) 27, bx (γ1 1) (#[.int .i64 now, .slice p n cap, .slice pa na ca]) 27, bx (γ1 0) (#[.int .i64 o.kind, .int .i64 o.vcpu, .int .i64 o.al.vcpu, .int .i64 o.al.port, .int .i64 o.al.every, .int .i64 o.time, .bool o.on]) 34]) ++ (Y_ ++ (X_ ++ List.drop 3 ([bx (γ1 2) (#[.int .i64 0, .slice none 0 0, .slice none 0 0]) 27, bx (γ1 1) (#[.int .i64 now, .slice p n cap, .slice pa na ca]) 27, bx (γ1 0) (#[.int .i64 o.kind, .int .i64 o.vcpu, .int .i64 o.al.vcpu, .int .i64 o.al.port, .int .i64 o.al.every, .int .i64 o.time, .bool o.on]) 34]))) ∧ SlO 42 Y_ q_ m_ c_ ((sleepV now ts rs o.vcpu (otV now o.on o.time)).2.1) ∧ SlO 32 X_ q2_ m2_ c2_ ((sleepV now ts rs o.vcpu (otV now o.on o.time)).2.2.1)) (fun args w => Tryz.call16 args w) (fun w hw => (sleep_t now p n cap ts pa na ca rs o.vcpu (otV now o.on o.time) w (hts.kept hw.below) hn (by omega) (hrs.kept hw.below) hna (by omega)).mono fun e w' ⟨q_, m_, c_, Y_, q2_, m2_, c2_, X_, he, h1, h2, hb, hY⟩ => ⟨_, _, he, ⟨q_, m_, c_, Y_, q2_, m2_, c2_, X_, rfl, rfl, h1, h2⟩, hw.joinT hb hY 3⟩) ?_
       rintro v1044 L1044 ⟨q1044, m1044, c1044, Y1044, p1044, k1044, d1044, Yx1044, rfl, rfl, hO1044, hP1044⟩
       refine od_ ?_
       refine tk (m := 2) [7, 8, 9] [] [4, 5] [(52, .agg #[.int .i64 ((sleepV now ts rs o.vcpu (otV now o.on o.time)).1), .slice q1044 m1044 c1044, .slice p1044 k1044 d1044]), (53, .int .i64 ((sleepV now ts rs o.vcpu (otV now o.on o.time)).2.2.2))] ([]) #[true, true, true, true, true, true, true, true, true, true, false, false] al0 ?_
       exact wk (hmx1 (Y1044, Yx1044, c1044, d1044, k1044, m1044, p1044, q1044) ⟨hO1044, hP1044⟩) [4, 5, 52, 53] [[_], [_], [_], _, _] [0, 1, 2, 3, 4] rfl rfl
      rintro ⟨Y1044, Yx1044, c1044, d1044, k1044, m1044, p1044, q1044⟩ ⟨hO1044, hP1044⟩
      refine any_nil (by kernel_rfl) ?_
      refine done_block (ds_ (sq_ (qa0 [(0, .go (owns 0 0 3)), (3, .go (owns 0 0 3))] [4] [(5, .slice none 0 0), (6, .int .i64 ((sleepV now ts rs o.vcpu (otV now o.on o.time)).2.2.2))] (ds_ (rt (owns 0 0 3) (.tuple #[.agg #[.int .i64 ((sleepV now ts rs o.vcpu (otV now o.on o.time)).1), .slice q1044 m1044 c1044, .slice p1044 k1044 d1044], .slice none 0 0, .int .i64 ((sleepV now ts rs o.vcpu (otV now o.on o.time)).2.2.2)]) ?_)))))
      have hop := op_3 q918 (now := now) (ts := ts) (rs := rs) (o := o)
      exact fun w' hw => by rw [hop.1, hop.2]; exact ⟨_, _, _, _, _, _, _, _, _, _, _, _, rfl, hO1044, hP1044, SlO.nil, hw.below, (Hs.pick [[bx (γ1 2) (#[.int .i64 ((sleepV now ts rs o.vcpu (otV now o.on o.time)).1), .slice q1044 m1044 c1044, .slice p1044 k1044 d1044]) 27], [bx (γ1 1) (#[.int .i64 now, .slice p n cap, .slice pa na ca]) 27], [bx (γ1 0) (#[.int .i64 o.kind, .int .i64 o.vcpu, .int .i64 o.al.vcpu, .int .i64 o.al.port, .int .i64 o.al.every, .int .i64 o.time, .bool o.on]) 34], Y1044, Yx1044] [3, 4] [0, 1, 2] (by kernel_rfl) hw)⟩
     ·
      refine qa [(0, .no)] [2, 3, 4, 5, 10] [(42, .bool false)] ([¬ ((kdV o.kind : Int) = (3 : Int))]) (al1 q918) (ds_ (f_ (sq_ ?_)))
      by_cases q1210 : (kdV o.kind : Int) = (4 : Int)
      ·
       refine qa [(0, .yes)] [2, 3, 4, 5] [(54, .bool true)] ([(kdV o.kind : Int) = (4 : Int)]) (al1 q1210) (ds_ (t_ (ao_ (qo0 3 [(0, .go (owns 1 0 3)), (2, .go (owns 2 1 1))] [4, 5] [(57, .agg #[.int .i64 now, .slice p n cap, .slice pa na ca]), (59, .int .i64 o.vcpu)] (cP (fun v L' => ∃ q_ m_ c_ Y_ q2_ m2_ c2_ X_, v = .tuple #[.agg #[.int .i64 ((wakeV now ts rs o.vcpu).1), .slice q_ m_ c_, .slice q2_ m2_ c2_], .int .i64 ((wakeV now ts rs o.vcpu).2.2.2)] ∧ L' = List.take 3 ([bx (γ1 2) (#[.int .i64 0, .slice none 0 0, .slice none 0 0]) 27, bx (γ1 1) (#[.int .i64 now, .slice p n cap, .slice pa na ca]) 27, bx (γ1 0) (#[.int .i64 o.kind, .int .i64 o.vcpu, .int .i64 o.al.vcpu, .int .i64 o.al.port, .int .i64 o.al.every, .int .i64 o.time, .bool o.on]) 34]) ++ (Y_ ++ (X_ ++ List.drop 3 ([bx (γ1 2) (#[.int .i64 0, .slice none 0 0, .slice none 0 0]) 27, bx (γ1 1) (#[.int .i64 now, .slice p n cap, .slice pa na ca]) 27, bx (γ1 0) (#[.int .i64 o.kind, .int .i64 o.vcpu, .int .i64 o.al.vcpu, .int .i64 o.al.port, .int .i64 o.al.every, .int .i64 o.time, .bool o.on]) 34]))) ∧ SlO 42 Y_ q_ m_ c_ ((wakeV now ts rs o.vcpu).2.1) ∧ SlO 32 X_ q2_ m2_ c2_ ((wakeV now ts rs o.vcpu).2.2.1)) (fun args w => Tryz.call17 args w) (fun w hw => (wake_t now p n cap ts pa na ca rs o.vcpu w (hts.kept hw.below) hn (by omega) (hrs.kept hw.below) hna (by omega)).mono fun e w' ⟨q_, m_, c_, Y_, q2_, m2_, c2_, X_, he, h1, h2, hb, hY⟩ => ⟨_, _, he, ⟨q_, m_, c_, Y_, q2_, m2_, c2_, X_, rfl, rfl, h1, h2⟩, hw.joinT hb hY 3⟩) ?_)))))
       rintro v1213 L1213 ⟨q1213, m1213, c1213, Y1213, p1213, k1213, d1213, Yx1213, rfl, rfl, hO1213, hP1213⟩
       refine mo0 5 [(7, .go (owns 0 0 3))] [4, 5] (fun _ => [(6, .int .i64 ((wakeV now ts rs o.vcpu).2.2.2))]) (fun _ L => (L.set 0 (bx (γ1 2) (#[.int .i64 ((wakeV now ts rs o.vcpu).1), .slice q1213 m1213 c1213, .slice p1213 k1213 d1213]) 27))) (fun _ => on_ (done_block (ds_ (sq_ (qa0 [(0, .go (owns 0 0 3)), (3, .go (owns 0 0 3))] [4] [(5, .slice none 0 0), (6, .int .i64 ((wakeV now ts rs o.vcpu).2.2.2))] (ds_ (rt (owns 0 0 3) (.tuple #[.agg #[.int .i64 ((wakeV now ts rs o.vcpu).1), .slice q1213 m1213 c1213, .slice p1213 k1213 d1213], .slice none 0 0, .int .i64 ((wakeV now ts rs o.vcpu).2.2.2)]) ?_)))))))
       have hop := op_4 q1210 (now := now) (ts := ts) (rs := rs) (o := o)
       exact fun w' hw => by rw [hop.1, hop.2]; exact ⟨_, _, _, _, _, _, _, _, _, _, _, _, rfl, hO1213, hP1213, SlO.nil, hw.below, (Hs.pick [[bx (γ1 2) (#[.int .i64 ((wakeV now ts rs o.vcpu).1), .slice q1213 m1213 c1213, .slice p1213 k1213 d1213]) 27], [bx (γ1 1) (#[.int .i64 now, .slice p n cap, .slice pa na ca]) 27], [bx (γ1 0) (#[.int .i64 o.kind, .int .i64 o.vcpu, .int .i64 o.al.vcpu, .int .i64 o.al.port, .int .i64 o.al.every, .int .i64 o.time, .bool o.on]) 34], Y1213, Yx1213] [3, 4] [0, 1, 2] (by kernel_rfl) hw)⟩
      ·
       refine qa [(0, .no)] [2, 3, 4, 5] [(54, .bool false)] ([¬ ((kdV o.kind : Int) = (4 : Int))]) (al1 q1210) (ds_ (f_ (at_calmTo (f := 8) 4 rfl (by kernel_rfl) (by kernel_rfl) (by kernel_rfl) (by kernel_rfl) (by kernel_rfl) (by kernel_rfl) ?_)))
       refine cm 3 [(0, .go (owns 1 0 3)), (1, .go (owns 2 0 7)), (2, .go (owns 1 0 3))] [4] [(12, .agg #[.int .i64 now, .slice p n cap, .slice pa na ca]), (13, .agg #[.int .i64 o.kind, .int .i64 o.vcpu, .int .i64 o.al.vcpu, .int .i64 o.al.port, .int .i64 o.al.every, .int .i64 o.time, .bool o.on]), (14, .agg #[.int .i64 now, .slice p n cap, .slice pa na ca])] ([]) (by kernel_rfl) rfl al0 ?_
       refine cK (.int .i64 (otV now o.on o.time)) (fun args w => Tryz.call14 args w) (fun w hw => ot_t o now p n cap ts pa na ca rs w (al_iff.1 q2).gw.n0 (al_iff.1 q2).gw.n1) ?_
       refine calm_nil' ?_
       refine done_pre (li' := #[true, true, true, true, false, false, false, false, false, false, false, false]) (by kernel_rfl) ?_
       refine any_cutX (V := (List Ob) × (List Ob) × (List Ob) × (Nat) × (Nat) × (Nat) × (Nat) × (Nat) × (Nat) × (Option Addr) × (Option Addr) × (Option Addr)) (fun ⟨Y1301, Yx1301, Yz1301, c1301, d1301, dz1301, k1301, kz1301, m1301, p1301, pz1301, q1301⟩ => SlO 42 Y1301 q1301 m1301 c1301 ((passA now ts rs (otV now o.on o.time)).2.1) ∧ SlO 32 Yx1301 p1301 k1301 d1301 ((passA now ts rs (otV now o.on o.time)).2.2.1) ∧ SlO 50 Yz1301 pz1301 kz1301 dz1301 (passR now ts rs (otV now o.on o.time))) 0 #[true, true, true, true, true, true, true, true, true, true, true, true] (fun ⟨Y1301, Yx1301, Yz1301, c1301, d1301, dz1301, k1301, kz1301, m1301, p1301, pz1301, q1301⟩ => [(4, .pointer (some ⟨γ1 2, 0, none⟩)), (5, .slice pz1301 kz1301 dz1301), (6, .int .i64 ((passA now ts rs (otV now o.on o.time)).2.2.2))]) (fun ⟨Y1301, Yx1301, Yz1301, c1301, d1301, dz1301, k1301, kz1301, m1301, p1301, pz1301, q1301⟩ => bx (γ1 2) (#[.int .i64 ((passA now ts rs (otV now o.on o.time)).1), .slice q1301 m1301 c1301, .slice p1301 k1301 d1301]) 27 :: bx (γ1 1) (#[.int .i64 now, .slice p n cap, .slice pa na ca]) 27 :: bx (γ1 0) (#[.int .i64 o.kind, .int .i64 o.vcpu, .int .i64 o.al.vcpu, .int .i64 o.al.port, .int .i64 o.al.every, .int .i64 o.time, .bool o.on]) 34 :: (Y1301 ++ (Yx1301 ++ (Yz1301 ++ [])))) ?_ (fun hmx2 => ?_)
       rotate_left
       ·
        refine any_cutX (V := (List Ob) × (List Ob) × (List Ob) × (Nat) × (Nat) × (Nat) × (Nat) × (Nat) × (Nat) × (Option Addr) × (Option Addr) × (Option Addr)) (fun ⟨Y1301, Yx1301, Yz1301, c1301, d1301, dz1301, k1301, kz1301, m1301, p1301, pz1301, q1301⟩ => SlO 42 Y1301 q1301 m1301 c1301 ((passA now ts rs (otV now o.on o.time)).2.1) ∧ SlO 32 Yx1301 p1301 k1301 d1301 ((passA now ts rs (otV now o.on o.time)).2.2.1) ∧ SlO 50 Yz1301 pz1301 kz1301 dz1301 (passR now ts rs (otV now o.on o.time))) 3 #[true, true, true, true, true, true, true, true, true, false, false, false] (fun ⟨Y1301, Yx1301, Yz1301, c1301, d1301, dz1301, k1301, kz1301, m1301, p1301, pz1301, q1301⟩ => [(4, .pointer (some ⟨γ1 2, 0, none⟩)), (17, .agg #[.int .i64 ((passA now ts rs (otV now o.on o.time)).1), .slice q1301 m1301 c1301, .slice p1301 k1301 d1301]), (18, .slice pz1301 kz1301 dz1301), (19, .int .i64 ((passA now ts rs (otV now o.on o.time)).2.2.2))]) (fun ⟨Y1301, Yx1301, Yz1301, c1301, d1301, dz1301, k1301, kz1301, m1301, p1301, pz1301, q1301⟩ => bx (γ1 2) (#[.int .i64 0, .slice none 0 0, .slice none 0 0]) 27 :: bx (γ1 1) (#[.int .i64 now, .slice p n cap, .slice pa na ca]) 27 :: bx (γ1 0) (#[.int .i64 o.kind, .int .i64 o.vcpu, .int .i64 o.al.vcpu, .int .i64 o.al.port, .int .i64 o.al.every, .int .i64 o.time, .bool o.on]) 34 :: (Y1301 ++ (Yx1301 ++ (Yz1301 ++ [])))) ?_ (fun hmx1 => ?_)
        ·
         rintro ⟨Y1301, Yx1301, Yz1301, c1301, d1301, dz1301, k1301, kz1301, m1301, p1301, pz1301, q1301⟩ ⟨hO1301, hP1301, hZ1301⟩
         refine a1 9 rfl ?_
         refine mo0 1 [(9, .go (owns 0 0 3))] [4, 18, 19] (fun _ => []) (fun _ L => (L.set 0 (bx (γ1 2) (#[.int .i64 ((passA now ts rs (otV now o.on o.time)).1), .slice q1301 m1301 c1301, .slice p1301 k1301 d1301]) 27))) (fun _ => ?_)
         refine od_ ?_
         refine tk (m := 0) [10, 11] [] [4] [(5, .slice pz1301 kz1301 dz1301), (6, .int .i64 ((passA now ts rs (otV now o.on o.time)).2.2.2))] ([]) #[true, true, true, true, true, true, true, true, true, true, true, true] al0 ?_
         exact wk (hmx2 (Y1301, Yx1301, Yz1301, c1301, d1301, dz1301, k1301, kz1301, m1301, p1301, pz1301, q1301) ⟨hO1301, hP1301, hZ1301⟩) [4, 5, 6] [[_], [_], [_], _, _, _] [0, 1, 2, 3, 4, 5] rfl rfl
        refine a1 4 rfl ?_
        refine cP (fun v L' => ∃ q_ m_ c_ Y_ q2_ m2_ c2_ X_ q3_ m3_ c3_ Z_, v = .tuple #[.agg #[.int .i64 ((passA now ts rs (otV now o.on o.time)).1), .slice q_ m_ c_, .slice q2_ m2_ c2_], .slice q3_ m3_ c3_, .int .i64 ((passA now ts rs (otV now o.on o.time)).2.2.2)] ∧ L' = List.take 3 ([bx (γ1 2) (#[.int .i64 0, .slice none 0 0, .slice none 0 0]) 27, bx (γ1 1) (#[.int .i64 now, .slice p n cap, .slice pa na ca]) 27, bx (γ1 0) (#[.int .i64 o.kind, .int .i64 o.vcpu, .int .i64 o.al.vcpu, .int .i64 o.al.port, .int .i64 o.al.every, .int .i64 o.time, .bool o.on]) 34]) ++ (Y_ ++ (X_ ++ (Z_ ++ List.drop 3 ([bx (γ1 2) (#[.int .i64 0, .slice none 0 0, .slice none 0 0]) 27, bx (γ1 1) (#[.int .i64 now, .slice p n cap, .slice pa na ca]) 27, bx (γ1 0) (#[.int .i64 o.kind, .int .i64 o.vcpu, .int .i64 o.al.vcpu, .int .i64 o.al.port, .int .i64 o.al.every, .int .i64 o.time, .bool o.on]) 34])))) ∧ SlO 42 Y_ q_ m_ c_ ((passA now ts rs (otV now o.on o.time)).2.1) ∧ SlO 32 X_ q2_ m2_ c2_ ((passA now ts rs (otV now o.on o.time)).2.2.1) ∧ SlO 50 Z_ q3_ m3_ c3_ (passR now ts rs (otV now o.on o.time))) (fun args w => Tryz.call12 args w) (fun w hw => (apass_t now p n cap ts pa na ca rs (otV now o.on o.time) w (hts.kept hw.below) hn (by omega) (hrs.kept hw.below) hna (by omega)).mono fun e w' ⟨q_, m_, c_, Y_, q2_, m2_, c2_, X_, q3_, m3_, c3_, Z_, he, h1, h2, h3, hb, hY⟩ => ⟨_, _, he, ⟨q_, m_, c_, Y_, q2_, m2_, c2_, X_, q3_, m3_, c3_, Z_, rfl, rfl, h1, h2, h3⟩, hw.joinZ hb hY 3⟩) ?_
        rintro v1301 L1301 ⟨q1301, m1301, c1301, Y1301, p1301, k1301, d1301, Yx1301, pz1301, kz1301, dz1301, Yz1301, rfl, rfl, hO1301, hP1301, hZ1301⟩
        refine od_ ?_
        refine tk (m := 3) [5, 6, 7, 8] [] [4] [(17, .agg #[.int .i64 ((passA now ts rs (otV now o.on o.time)).1), .slice q1301 m1301 c1301, .slice p1301 k1301 d1301]), (18, .slice pz1301 kz1301 dz1301), (19, .int .i64 ((passA now ts rs (otV now o.on o.time)).2.2.2))] ([]) #[true, true, true, true, true, true, true, true, true, false, false, false] al0 ?_
        exact wk (hmx1 (Y1301, Yx1301, Yz1301, c1301, d1301, dz1301, k1301, kz1301, m1301, p1301, pz1301, q1301) ⟨hO1301, hP1301, hZ1301⟩) [4, 17, 18, 19] [[_], [_], [_], _, _, _] [0, 1, 2, 3, 4, 5] rfl rfl
       rintro ⟨Y1301, Yx1301, Yz1301, c1301, d1301, dz1301, k1301, kz1301, m1301, p1301, pz1301, q1301⟩ ⟨hO1301, hP1301, hZ1301⟩
       refine any_nil (by kernel_rfl) ?_
       refine done_block (ds_ (sq_ (qa0 [(0, .go (owns 0 0 3)), (3, .go (owns 0 0 3))] [4] [(5, .slice pz1301 kz1301 dz1301), (6, .int .i64 ((passA now ts rs (otV now o.on o.time)).2.2.2))] (ds_ (rt (owns 0 0 3) (.tuple #[.agg #[.int .i64 ((passA now ts rs (otV now o.on o.time)).1), .slice q1301 m1301 c1301, .slice p1301 k1301 d1301], .slice pz1301 kz1301 dz1301, .int .i64 ((passA now ts rs (otV now o.on o.time)).2.2.2)]) ?_)))))
       have hop := op_5 (fun h => of_decide_eq_false q908 (.inl h)) (fun h => of_decide_eq_false q908 (.inr h)) q910 q918 q1210 (now := now) (ts := ts) (rs := rs) (o := o)
       exact fun w' hw => by rw [hop.1, hop.2]; exact ⟨_, _, _, _, _, _, _, _, _, _, _, _, rfl, hO1301, hP1301, hZ1301, hw.below, three_tails (Hs.pick [[bx (γ1 2) (#[.int .i64 ((passA now ts rs (otV now o.on o.time)).1), .slice q1301 m1301 c1301, .slice p1301 k1301 d1301]) 27], [bx (γ1 1) (#[.int .i64 now, .slice p n cap, .slice pa na ca]) 27], [bx (γ1 0) (#[.int .i64 o.kind, .int .i64 o.vcpu, .int .i64 o.al.vcpu, .int .i64 o.al.port, .int .i64 o.al.every, .int .i64 o.time, .bool o.on]) 34], Y1301, Yx1301, Yz1301] [3, 4, 5] [0, 1, 2] (by kernel_rfl) hw)⟩
   ·
    refine t_ (at_calmTo (f := 6) 6 rfl (by kernel_rfl) (by kernel_rfl) (by kernel_rfl) (by kernel_rfl) (by kernel_rfl) (by kernel_rfl) ?_)
    refine cm 5 [(0, .go (owns 1 0 3)), (2, .go (owns 2 2 3)), (3, .go (owns 2 0 7)), (4, .go (owns 1 0 3))] [4, 5] [(24, .agg #[.int .i64 now, .slice p n cap, .slice pa na ca]), (26, .agg #[.int .i64 o.al.vcpu, .int .i64 o.al.port, .int .i64 o.al.every]), (27, .agg #[.int .i64 o.kind, .int .i64 o.vcpu, .int .i64 o.al.vcpu, .int .i64 o.al.port, .int .i64 o.al.every, .int .i64 o.time, .bool o.on]), (28, .agg #[.int .i64 now, .slice p n cap, .slice pa na ca])] ([]) (by kernel_rfl) rfl al0 ?_
    refine cK (.int .i64 (otV now o.on o.time)) (fun args w => Tryz.call14 args w) (fun w hw => ot_t o now p n cap ts pa na ca rs w (al_iff.1 q2).gw.n0 (al_iff.1 q2).gw.n1) ?_
    refine calm_nil' ?_
    refine done_pre (li' := #[true, true, true, true, true, true, false, false, false, false, false, false]) (by kernel_rfl) ?_
    refine any_cutX (V := (List Ob) × (List Ob) × (Nat) × (Nat) × (Nat) × (Nat) × (Option Addr) × (Option Addr)) (fun ⟨Y1629, Yx1629, c1629, d1629, k1629, m1629, p1629, q1629⟩ => SlO 42 Y1629 q1629 m1629 c1629 ((startV now ts rs o.al (otV now o.on o.time)).2.1) ∧ SlO 32 Yx1629 p1629 k1629 d1629 ((startV now ts rs o.al (otV now o.on o.time)).2.2.1)) 0 #[true, true, true, true, true, true, true, true, true, true, true, true] (fun ⟨Y1629, Yx1629, c1629, d1629, k1629, m1629, p1629, q1629⟩ => [(4, .pointer (some ⟨γ1 2, 0, none⟩)), (5, .slice none 0 0), (6, .int .i64 ((startV now ts rs o.al (otV now o.on o.time)).2.2.2))]) (fun ⟨Y1629, Yx1629, c1629, d1629, k1629, m1629, p1629, q1629⟩ => bx (γ1 2) (#[.int .i64 ((startV now ts rs o.al (otV now o.on o.time)).1), .slice q1629 m1629 c1629, .slice p1629 k1629 d1629]) 27 :: bx (γ1 1) (#[.int .i64 now, .slice p n cap, .slice pa na ca]) 27 :: bx (γ1 0) (#[.int .i64 o.kind, .int .i64 o.vcpu, .int .i64 o.al.vcpu, .int .i64 o.al.port, .int .i64 o.al.every, .int .i64 o.time, .bool o.on]) 34 :: (Y1629 ++ (Yx1629 ++ []))) ?_ (fun hmx2 => ?_)
    rotate_left
    ·
     refine any_cutX (V := (List Ob) × (List Ob) × (Nat) × (Nat) × (Nat) × (Nat) × (Option Addr) × (Option Addr)) (fun ⟨Y1629, Yx1629, c1629, d1629, k1629, m1629, p1629, q1629⟩ => SlO 42 Y1629 q1629 m1629 c1629 ((startV now ts rs o.al (otV now o.on o.time)).2.1) ∧ SlO 32 Yx1629 p1629 k1629 d1629 ((startV now ts rs o.al (otV now o.on o.time)).2.2.1)) 2 #[true, true, true, true, true, true, true, true, true, true, false, false] (fun ⟨Y1629, Yx1629, c1629, d1629, k1629, m1629, p1629, q1629⟩ => [(4, .pointer (some ⟨γ1 2, 0, none⟩)), (5, .slice none 0 0), (31, .agg #[.int .i64 ((startV now ts rs o.al (otV now o.on o.time)).1), .slice q1629 m1629 c1629, .slice p1629 k1629 d1629]), (32, .int .i64 ((startV now ts rs o.al (otV now o.on o.time)).2.2.2))]) (fun ⟨Y1629, Yx1629, c1629, d1629, k1629, m1629, p1629, q1629⟩ => bx (γ1 2) (#[.int .i64 0, .slice none 0 0, .slice none 0 0]) 27 :: bx (γ1 1) (#[.int .i64 now, .slice p n cap, .slice pa na ca]) 27 :: bx (γ1 0) (#[.int .i64 o.kind, .int .i64 o.vcpu, .int .i64 o.al.vcpu, .int .i64 o.al.port, .int .i64 o.al.every, .int .i64 o.time, .bool o.on]) 34 :: (Y1629 ++ (Yx1629 ++ []))) ?_ (fun hmx1 => ?_)
     ·
      rintro ⟨Y1629, Yx1629, c1629, d1629, k1629, m1629, p1629, q1629⟩ ⟨hO1629, hP1629⟩
      refine a1 10 rfl ?_
      refine mo0 1 [(10, .go (owns 0 0 3))] [4, 5, 32] (fun _ => []) (fun _ L => (L.set 0 (bx (γ1 2) (#[.int .i64 ((startV now ts rs o.al (otV now o.on o.time)).1), .slice q1629 m1629 c1629, .slice p1629 k1629 d1629]) 27))) (fun _ => ?_)
      refine od_ ?_
      refine tk (m := 0) [11] [] [4, 5] [(6, .int .i64 ((startV now ts rs o.al (otV now o.on o.time)).2.2.2))] ([]) #[true, true, true, true, true, true, true, true, true, true, true, true] al0 ?_
      exact wk (hmx2 (Y1629, Yx1629, c1629, d1629, k1629, m1629, p1629, q1629) ⟨hO1629, hP1629⟩) [4, 5, 6] [[_], [_], [_], _, _] [0, 1, 2, 3, 4] rfl rfl
     refine a1 6 rfl ?_
     refine cP (fun v L' => ∃ q_ m_ c_ Y_ q2_ m2_ c2_ X_, v = .tuple #[.agg #[.int .i64 ((startV now ts rs o.al (otV now o.on o.time)).1), .slice q_ m_ c_, .slice q2_ m2_ c2_], .int .i64 ((startV now ts rs o.al (otV now o.on o.time)).2.2.2)] ∧ L' = List.take 3 ([bx (γ1 2) (#[.int .i64 0, .slice none 0 0, .slice none 0 0]) 27, bx (γ1 1) (#[.int .i64 now, .slice p n cap, .slice pa na ca]) 27, bx (γ1 0) (#[.int .i64 o.kind, .int .i64 o.vcpu, .int .i64 o.al.vcpu, .int .i64 o.al.port, .int .i64 o.al.every, .int .i64 o.time, .bool o.on]) 34]) ++ (Y_ ++ (X_ ++ List.drop 3 ([bx (γ1 2) (#[.int .i64 0, .slice none 0 0, .slice none 0 0]) 27, bx (γ1 1) (#[.int .i64 now, .slice p n cap, .slice pa na ca]) 27, bx (γ1 0) (#[.int .i64 o.kind, .int .i64 o.vcpu, .int .i64 o.al.vcpu, .int .i64 o.al.port, .int .i64 o.al.every, .int .i64 o.time, .bool o.on]) 34]))) ∧ SlO 42 Y_ q_ m_ c_ ((startV now ts rs o.al (otV now o.on o.time)).2.1) ∧ SlO 32 X_ q2_ m2_ c2_ ((startV now ts rs o.al (otV now o.on o.time)).2.2.1)) (fun args w => Tryz.call11 args w) (fun w hw => (start_t now p n cap ts pa na ca rs o.al (otV now o.on o.time) w (hts.kept hw.below) hn (by omega) (hrs.kept hw.below) hna (by omega)).mono fun e w' ⟨q_, m_, c_, Y_, q2_, m2_, c2_, X_, he, h1, h2, hb, hY⟩ => ⟨_, _, he, ⟨q_, m_, c_, Y_, q2_, m2_, c2_, X_, rfl, rfl, h1, h2⟩, hw.joinT hb hY 3⟩) ?_
     rintro v1629 L1629 ⟨q1629, m1629, c1629, Y1629, p1629, k1629, d1629, Yx1629, rfl, rfl, hO1629, hP1629⟩
     refine od_ ?_
     refine tk (m := 2) [7, 8, 9] [] [4, 5] [(31, .agg #[.int .i64 ((startV now ts rs o.al (otV now o.on o.time)).1), .slice q1629 m1629 c1629, .slice p1629 k1629 d1629]), (32, .int .i64 ((startV now ts rs o.al (otV now o.on o.time)).2.2.2))] ([]) #[true, true, true, true, true, true, true, true, true, true, false, false] al0 ?_
     exact wk (hmx1 (Y1629, Yx1629, c1629, d1629, k1629, m1629, p1629, q1629) ⟨hO1629, hP1629⟩) [4, 5, 31, 32] [[_], [_], [_], _, _] [0, 1, 2, 3, 4] rfl rfl
    rintro ⟨Y1629, Yx1629, c1629, d1629, k1629, m1629, p1629, q1629⟩ ⟨hO1629, hP1629⟩
    refine any_nil (by kernel_rfl) ?_
    refine done_block (ds_ (sq_ (qa0 [(0, .go (owns 0 0 3)), (3, .go (owns 0 0 3))] [4] [(5, .slice none 0 0), (6, .int .i64 ((startV now ts rs o.al (otV now o.on o.time)).2.2.2))] (ds_ (rt (owns 0 0 3) (.tuple #[.agg #[.int .i64 ((startV now ts rs o.al (otV now o.on o.time)).1), .slice q1629 m1629 c1629, .slice p1629 k1629 d1629], .slice none 0 0, .int .i64 ((startV now ts rs o.al (otV now o.on o.time)).2.2.2)]) ?_)))))
    have hop := op_01 (of_decide_eq_true q908) (now := now) (ts := ts) (rs := rs) (o := o)
    exact fun w' hw => by rw [hop.1, hop.2]; exact ⟨_, _, _, _, _, _, _, _, _, _, _, _, rfl, hO1629, hP1629, SlO.nil, hw.below, (Hs.pick [[bx (γ1 2) (#[.int .i64 ((startV now ts rs o.al (otV now o.on o.time)).1), .slice q1629 m1629 c1629, .slice p1629 k1629 d1629]) 27], [bx (γ1 1) (#[.int .i64 now, .slice p n cap, .slice pa na ca]) 27], [bx (γ1 0) (#[.int .i64 o.kind, .int .i64 o.vcpu, .int .i64 o.al.vcpu, .int .i64 o.al.port, .int .i64 o.al.every, .int .i64 o.time, .bool o.on]) 34], Y1629, Yx1629] [3, 4] [0, 1, 2] (by kernel_rfl) hw)⟩

set_option maxRecDepth 100000 in
theorem wants_t (o : OpA8) (now : Int) (p : Option Addr) (n cap : Nat) (ts : List Tim) (pa : Option Addr) (na ca : Nat) (rs : List Alm) (w : World)
 (hts : Sv w p ts) (hn : n = ts.length) (hb : n ≤ 1000)
 (hrs : Sv w pa rs) (hna : na = rs.length) (hba : na ≤ 1000)
 : Calls Tryz.prog 7 #[.agg #[.int .i64 o.kind, .int .i64 o.vcpu, .int .i64 o.al.vcpu, .int .i64 o.al.port, .int .i64 o.al.every, .int .i64 o.time, .bool o.on], .agg #[.int .i64 now, .slice p n cap, .slice pa na ca]] w fun e w' => ∃ q m c Y q2 m2 c2 X q3 m3 c3 Z, e = .returned (.tuple #[.agg #[.int .i64 (opV8 now ts rs o).1, .slice q m c, .slice q2 m2 c2], .slice q3 m3 c3, .int .i64 (opV8 now ts rs o).2.2.2]) ∧ SlO 42 Y q m c (opV8 now ts rs o).2.1 ∧ SlO 32 X q2 m2 c2 (opV8 now ts rs o).2.2.1 ∧ SlO 50 Z q3 m3 c3 (opR8 now ts rs o) ∧ Below w.heap.size w w' ∧ Hs w (Y ++ (X ++ Z)) w' := by
 refine enter (Hs.start w) Tryz.func7 rfl Tryz.ntmps7 rfl (sq_ (ma0 [] [] (fun γ1 => [(2, .pointer (some ⟨γ1 0, 0, none⟩)), (3, .pointer (some ⟨γ1 1, 0, none⟩)), (4, .pointer (some ⟨γ1 2, 0, none⟩)), (5, .slice none 0 0)]) (fun γ1 L => bx (γ1 2) (#[.int .i64 0, .slice none 0 0, .slice none 0 0]) 27 :: bx (γ1 1) (#[.int .i64 now, .slice p n cap, .slice pa na ca]) 27 :: bx (γ1 0) (#[.int .i64 o.kind, .int .i64 o.vcpu, .int .i64 o.al.vcpu, .int .i64 o.al.port, .int .i64 o.al.every, .int .i64 o.time, .bool o.on]) 34 :: L) (fun γ1 => ds_ (sq_ (sq_ (ao_ (qo0 1 [(0, .go (owns 1 0 3))] [2, 3, 4, 5] [(7, .agg #[.int .i64 now, .slice p n cap, .slice pa na ca])] ?_)))))))
 rcases q3 : alB now ts rs with _ | _
 ·
  refine cD (.bool false) (fun args w => Tryz.call18 args w) (fun w hw => by have := rright8_t now p n cap ts pa na ca rs w (hts.kept hw.below) hn (by omega) (hrs.kept hw.below) hna (by omega); rw [q3] at this; exact this) (qo0 1 [] [2, 3, 4, 5] [(9, .bool true)] (on_ (ds_ (t_ (sq_ (qa0 [(1, .go (owns 0 0 3))] [4] [(5, .slice none 0 0), (6, .int .i64 280)] (ds_ (rt (owns 0 0 3) (.tuple #[.agg #[.int .i64 0, .slice none 0 0, .slice none 0 0], .slice none 0 0, .int .i64 280]) ?_))))))))
  have hop := op_bad (o := o) q3
  exact fun w' hw => by rw [hop.1, hop.2]; exact ⟨none, 0, 0, [], none, 0, 0, [], none, 0, 0, [], rfl, SlO.nil, SlO.nil, SlO.nil, hw.below, hw.sub (List.nil_sublist _)⟩
 ·
  refine cD (.bool true) (fun args w => Tryz.call18 args w) (fun w hw => by have := rright8_t now p n cap ts pa na ca rs w (hts.kept hw.below) hn (by omega) (hrs.kept hw.below) hna (by omega); rw [q3] at this; exact this) (qo0 1 [] [2, 3, 4, 5] [(9, .bool false)] (on_ (ds_ (f_ (at_skip (ds_ (sq_ (sq_ (qa0 [(1, .go (owns 2 0 1))] [2, 3, 4, 5] [(14, .int .u64 (kdV o.kind))] (ds_ (at_block (at_cutS [(2, .pointer (some ⟨γ1 0, 0, none⟩)), (3, .pointer (some ⟨γ1 1, 0, none⟩)), (4, .pointer (some ⟨γ1 2, 0, none⟩)), (5, .slice none 0 0), (14, .int .u64 (kdV o.kind)), (24, .bool (decide (kdV o.kind = 0 ∨ kdV o.kind = 1)))] (fun hm8 => ?_) ?_))))))))))))
  ·
   refine sq_ ?_
   by_cases q10 : (kdV o.kind : Int) = (0 : Int)
   ·
    refine qa [(0, .yes)] [2, 3, 4, 5, 14] [(24, .bool true)] ([(kdV o.kind : Int) = (0 : Int)]) (al1 q10) (ds_ (t_ (at_skip ?_)))
    exact hm8.weakS [2, 3, 4, 5, 14, 24] (by rw [show decide (kdV o.kind = 0 ∨ kdV o.kind = 1) = true from decide_eq_true (.inl q10)]; kernel_rfl)
   ·
    refine qa [(0, .no)] [2, 3, 4, 5, 14] [(24, .bool false)] ([¬ ((kdV o.kind : Int) = (0 : Int))]) (al1 q10) (ds_ (f_ ?_))
    by_cases q14 : (kdV o.kind : Int) = (1 : Int)
    ·
     refine qa [(0, .yes)] [2, 3, 4, 5, 14] [(24, .bool true)] ([(kdV o.kind : Int) = (1 : Int)]) (al1 q14) ?_
     exact hm8.weakS [2, 3, 4, 5, 14, 24] (by rw [show decide (kdV o.kind = 0 ∨ kdV o.kind = 1) = true from decide_eq_true (.inr q14)]; kernel_rfl)
    ·
     refine qa [(0, .no)] [2, 3, 4, 5, 14] [(24, .bool false)] ([¬ ((kdV o.kind : Int) = (1 : Int))]) (al1 q14) ?_
     exact hm8.weakS [2, 3, 4, 5, 14, 24] (by rw [show decide (kdV o.kind = 0 ∨ kdV o.kind = 1) = false from decide_eq_false (fun h => h.elim q10 q14)]; kernel_rfl)
  ·
   rcases q17 : decide (kdV o.kind = 0 ∨ kdV o.kind = 1) with _ | _
   ·
    refine f_ (sq_ ?_)
    by_cases q19 : (kdV o.kind : Int) = (2 : Int)
    ·
     refine qa [(0, .yes)] [2, 3, 4, 5, 14] [(37, .bool true)] ([(kdV o.kind : Int) = (2 : Int)]) (al1 q19) (ds_ (t_ (ao_ (qo0 3 [(0, .go (owns 1 0 3)), (2, .go (owns 2 1 1))] [4, 5] [(40, .agg #[.int .i64 now, .slice p n cap, .slice pa na ca]), (42, .int .i64 o.vcpu)] (cP (fun v L' => ∃ q_ m_ c_ Y_ q2_ m2_ c2_ X_, v = .tuple #[.agg #[.int .i64 ((stopV now ts rs o.vcpu).1), .slice q_ m_ c_, .slice q2_ m2_ c2_], .int .i64 ((stopV now ts rs o.vcpu).2.2.2)] ∧ L' = List.take 3 ([bx (γ1 2) (#[.int .i64 0, .slice none 0 0, .slice none 0 0]) 27, bx (γ1 1) (#[.int .i64 now, .slice p n cap, .slice pa na ca]) 27, bx (γ1 0) (#[.int .i64 o.kind, .int .i64 o.vcpu, .int .i64 o.al.vcpu, .int .i64 o.al.port, .int .i64 o.al.every, .int .i64 o.time, .bool o.on]) 34]) ++ (Y_ ++ (X_ ++ List.drop 3 ([bx (γ1 2) (#[.int .i64 0, .slice none 0 0, .slice none 0 0]) 27, bx (γ1 1) (#[.int .i64 now, .slice p n cap, .slice pa na ca]) 27, bx (γ1 0) (#[.int .i64 o.kind, .int .i64 o.vcpu, .int .i64 o.al.vcpu, .int .i64 o.al.port, .int .i64 o.al.every, .int .i64 o.time, .bool o.on]) 34]))) ∧ SlO 42 Y_ q_ m_ c_ ((stopV now ts rs o.vcpu).2.1) ∧ SlO 32 X_ q2_ m2_ c2_ ((stopV now ts rs o.vcpu).2.2.1)) (fun args w => Tryz.call20 args w) (fun w hw => (rstop_t now p n cap ts pa na ca rs o.vcpu w (hts.kept hw.below) hn (by omega) (hrs.kept hw.below) hna (by omega) q3).mono fun e w' ⟨q_, m_, c_, Y_, q2_, m2_, c2_, X_, he, h1, h2, hb, hY⟩ => ⟨_, _, he, ⟨q_, m_, c_, Y_, q2_, m2_, c2_, X_, rfl, rfl, h1, h2⟩, hw.joinT hb hY 3⟩) ?_)))))
     rintro v22 L22 ⟨q22, m22, c22, Y22, p22, k22, d22, Yx22, rfl, rfl, hO22, hP22⟩
     refine mo0 5 [(7, .go (owns 0 0 3))] [4, 5] (fun _ => [(6, .int .i64 ((stopV now ts rs o.vcpu).2.2.2))]) (fun _ L => (L.set 0 (bx (γ1 2) (#[.int .i64 ((stopV now ts rs o.vcpu).1), .slice q22 m22 c22, .slice p22 k22 d22]) 27))) (fun _ => on_ (done_block (ds_ (sq_ (qa0 [(0, .go (owns 0 0 3)), (3, .go (owns 0 0 3))] [4] [(5, .slice none 0 0), (6, .int .i64 ((stopV now ts rs o.vcpu).2.2.2))] (ds_ (rt (owns 0 0 3) (.tuple #[.agg #[.int .i64 ((stopV now ts rs o.vcpu).1), .slice q22 m22 c22, .slice p22 k22 d22], .slice none 0 0, .int .i64 ((stopV now ts rs o.vcpu).2.2.2)]) ?_)))))))
     have hop := op_2 q19 (now := now) (ts := ts) (rs := rs) (o := o)
     exact fun w' hw => by rw [hop.1, hop.2]; exact ⟨_, _, _, _, _, _, _, _, _, _, _, _, rfl, hO22, hP22, SlO.nil, hw.below, (Hs.pick [[bx (γ1 2) (#[.int .i64 ((stopV now ts rs o.vcpu).1), .slice q22 m22 c22, .slice p22 k22 d22]) 27], [bx (γ1 1) (#[.int .i64 now, .slice p n cap, .slice pa na ca]) 27], [bx (γ1 0) (#[.int .i64 o.kind, .int .i64 o.vcpu, .int .i64 o.al.vcpu, .int .i64 o.al.port, .int .i64 o.al.every, .int .i64 o.time, .bool o.on]) 34], Y22, Yx22] [3, 4] [0, 1, 2] (by kernel_rfl) hw)⟩
    ·
     refine qa [(0, .no)] [2, 3, 4, 5, 14] [(37, .bool false)] ([¬ ((kdV o.kind : Int) = (2 : Int))]) (al1 q19) (ds_ (f_ (sq_ ?_)))
     by_cases q27 : (kdV o.kind : Int) = (3 : Int)
     ·
      refine qa [(0, .yes)] [2, 3, 4, 5, 14] [(46, .bool true)] ([(kdV o.kind : Int) = (3 : Int)]) (al1 q27) (ds_ (t_ (at_calmTo (f := 6) 6 rfl (by kernel_rfl) (by kernel_rfl) (by kernel_rfl) (by kernel_rfl) (by kernel_rfl) (by kernel_rfl) ?_)))
      refine cm 5 [(0, .go (owns 1 0 3)), (2, .go (owns 2 1 1)), (3, .go (owns 2 0 7)), (4, .go (owns 1 0 3))] [4, 5] [(49, .agg #[.int .i64 now, .slice p n cap, .slice pa na ca]), (51, .int .i64 o.vcpu), (52, .agg #[.int .i64 o.kind, .int .i64 o.vcpu, .int .i64 o.al.vcpu, .int .i64 o.al.port, .int .i64 o.al.every, .int .i64 o.time, .bool o.on]), (53, .agg #[.int .i64 now, .slice p n cap, .slice pa na ca])] ([]) (by kernel_rfl) rfl al0 ?_
      refine cK (.int .i64 (otV now o.on o.time)) (fun args w => Tryz.call14 args w) (fun w hw => ot_t o now p n cap ts pa na ca rs w (al_iff.1 q3).gw.n0 (al_iff.1 q3).gw.n1) ?_
      refine calm_nil' ?_
      refine done_pre (li' := #[true, true, true, true, true, true, false, false, false, false, false, false]) (by kernel_rfl) ?_
      refine any_cutX (V := (List Ob) × (List Ob) × (Nat) × (Nat) × (Nat) × (Nat) × (Option Addr) × (Option Addr)) (fun ⟨Y153, Yx153, c153, d153, k153, m153, p153, q153⟩ => SlO 42 Y153 q153 m153 c153 ((sleepV now ts rs o.vcpu (otV now o.on o.time)).2.1) ∧ SlO 32 Yx153 p153 k153 d153 ((sleepV now ts rs o.vcpu (otV now o.on o.time)).2.2.1)) 0 #[true, true, true, true, true, true, true, true, true, true, true, true] (fun ⟨Y153, Yx153, c153, d153, k153, m153, p153, q153⟩ => [(4, .pointer (some ⟨γ1 2, 0, none⟩)), (5, .slice none 0 0), (6, .int .i64 ((sleepV now ts rs o.vcpu (otV now o.on o.time)).2.2.2))]) (fun ⟨Y153, Yx153, c153, d153, k153, m153, p153, q153⟩ => bx (γ1 2) (#[.int .i64 ((sleepV now ts rs o.vcpu (otV now o.on o.time)).1), .slice q153 m153 c153, .slice p153 k153 d153]) 27 :: bx (γ1 1) (#[.int .i64 now, .slice p n cap, .slice pa na ca]) 27 :: bx (γ1 0) (#[.int .i64 o.kind, .int .i64 o.vcpu, .int .i64 o.al.vcpu, .int .i64 o.al.port, .int .i64 o.al.every, .int .i64 o.time, .bool o.on]) 34 :: (Y153 ++ (Yx153 ++ []))) ?_ (fun hmx2 => ?_)
      rotate_left
      ·
       refine any_cutX (V := (List Ob) × (List Ob) × (Nat) × (Nat) × (Nat) × (Nat) × (Option Addr) × (Option Addr)) (fun ⟨Y153, Yx153, c153, d153, k153, m153, p153, q153⟩ => SlO 42 Y153 q153 m153 c153 ((sleepV now ts rs o.vcpu (otV now o.on o.time)).2.1) ∧ SlO 32 Yx153 p153 k153 d153 ((sleepV now ts rs o.vcpu (otV now o.on o.time)).2.2.1)) 2 #[true, true, true, true, true, true, true, true, true, true, false, false] (fun ⟨Y153, Yx153, c153, d153, k153, m153, p153, q153⟩ => [(4, .pointer (some ⟨γ1 2, 0, none⟩)), (5, .slice none 0 0), (56, .agg #[.int .i64 ((sleepV now ts rs o.vcpu (otV now o.on o.time)).1), .slice q153 m153 c153, .slice p153 k153 d153]), (57, .int .i64 ((sleepV now ts rs o.vcpu (otV now o.on o.time)).2.2.2))]) (fun ⟨Y153, Yx153, c153, d153, k153, m153, p153, q153⟩ => bx (γ1 2) (#[.int .i64 0, .slice none 0 0, .slice none 0 0]) 27 :: bx (γ1 1) (#[.int .i64 now, .slice p n cap, .slice pa na ca]) 27 :: bx (γ1 0) (#[.int .i64 o.kind, .int .i64 o.vcpu, .int .i64 o.al.vcpu, .int .i64 o.al.port, .int .i64 o.al.every, .int .i64 o.time, .bool o.on]) 34 :: (Y153 ++ (Yx153 ++ []))) ?_ (fun hmx1 => ?_)
       ·
        rintro ⟨Y153, Yx153, c153, d153, k153, m153, p153, q153⟩ ⟨hO153, hP153⟩
        refine a1 10 rfl ?_
        refine mo0 1 [(10, .go (owns 0 0 3))] [4, 5, 57] (fun _ => []) (fun _ L => (L.set 0 (bx (γ1 2) (#[.int .i64 ((sleepV now ts rs o.vcpu (otV now o.on o.time)).1), .slice q153 m153 c153, .slice p153 k153 d153]) 27))) (fun _ => ?_)
        refine od_ ?_
        refine tk (m := 0) [11] [] [4, 5] [(6, .int .i64 ((sleepV now ts rs o.vcpu (otV now o.on o.time)).2.2.2))] ([]) #[true, true, true, true, true, true, true, true, true, true, true, true] al0 ?_
        exact wk (hmx2 (Y153, Yx153, c153, d153, k153, m153, p153, q153) ⟨hO153, hP153⟩) [4, 5, 6] [[_], [_], [_], _, _] [0, 1, 2, 3, 4] rfl rfl
       refine a1 6 rfl ?_
       refine cP (fun v L' => ∃ q_ m_ c_ Y_ q2_ m2_ c2_ X_, v = .tuple #[.agg #[.int .i64 ((sleepV now ts rs o.vcpu (otV now o.on o.time)).1), .slice q_ m_ c_, .slice q2_ m2_ c2_], .int .i64 ((sleepV now ts rs o.vcpu (otV now o.on o.time)).2.2.2)] ∧ L' = List.take 3 ([bx (γ1 2) (#[.int .i64 0, .slice none 0 0, .slice none 0 0]) 27, bx (γ1 1) (#[.int .i64 now, .slice p n cap, .slice pa na ca]) 27, bx (γ1 0) (#[.int .i64 o.kind, .int .i64 o.vcpu, .int .i64 o.al.vcpu, .int .i64 o.al.port, .int .i64 o.al.every, .int .i64 o.time, .bool o.on]) 34]) ++ (Y_ ++ (X_ ++ List.drop 3 ([bx (γ1 2) (#[.int .i64 0, .slice none 0 0, .slice none 0 0]) 27, bx (γ1 1) (#[.int .i64 now, .slice p n cap, .slice pa na ca]) 27, bx (γ1 0) (#[.int .i64 o.kind, .int .i64 o.vcpu, .int .i64 o.al.vcpu, .int .i64 o.al.port, .int .i64 o.al.every, .int .i64 o.time, .bool o.on]) 34]))) ∧ SlO 42 Y_ q_ m_ c_ ((sleepV now ts rs o.vcpu (otV now o.on o.time)).2.1) ∧ SlO 32 X_ q2_ m2_ c2_ ((sleepV now ts rs o.vcpu (otV now o.on o.time)).2.2.1)) (fun args w => Tryz.call21 args w) (fun w hw => (rsleep_t now p n cap ts pa na ca rs o.vcpu (otV now o.on o.time) w (hts.kept hw.below) hn (by omega) (hrs.kept hw.below) hna (by omega) q3).mono fun e w' ⟨q_, m_, c_, Y_, q2_, m2_, c2_, X_, he, h1, h2, hb, hY⟩ => ⟨_, _, he, ⟨q_, m_, c_, Y_, q2_, m2_, c2_, X_, rfl, rfl, h1, h2⟩, hw.joinT hb hY 3⟩) ?_
       rintro v153 L153 ⟨q153, m153, c153, Y153, p153, k153, d153, Yx153, rfl, rfl, hO153, hP153⟩
       refine od_ ?_
       refine tk (m := 2) [7, 8, 9] [] [4, 5] [(56, .agg #[.int .i64 ((sleepV now ts rs o.vcpu (otV now o.on o.time)).1), .slice q153 m153 c153, .slice p153 k153 d153]), (57, .int .i64 ((sleepV now ts rs o.vcpu (otV now o.on o.time)).2.2.2))] ([]) #[true, true, true, true, true, true, true, true, true, true, false, false] al0 ?_
       exact wk (hmx1 (Y153, Yx153, c153, d153, k153, m153, p153, q153) ⟨hO153, hP153⟩) [4, 5, 56, 57] [[_], [_], [_], _, _] [0, 1, 2, 3, 4] rfl rfl
      rintro ⟨Y153, Yx153, c153, d153, k153, m153, p153, q153⟩ ⟨hO153, hP153⟩
      refine any_nil (by kernel_rfl) ?_
      refine done_block (ds_ (sq_ (qa0 [(0, .go (owns 0 0 3)), (3, .go (owns 0 0 3))] [4] [(5, .slice none 0 0), (6, .int .i64 ((sleepV now ts rs o.vcpu (otV now o.on o.time)).2.2.2))] (ds_ (rt (owns 0 0 3) (.tuple #[.agg #[.int .i64 ((sleepV now ts rs o.vcpu (otV now o.on o.time)).1), .slice q153 m153 c153, .slice p153 k153 d153], .slice none 0 0, .int .i64 ((sleepV now ts rs o.vcpu (otV now o.on o.time)).2.2.2)]) ?_)))))
      have hop := op_3 q27 (now := now) (ts := ts) (rs := rs) (o := o)
      exact fun w' hw => by rw [hop.1, hop.2]; exact ⟨_, _, _, _, _, _, _, _, _, _, _, _, rfl, hO153, hP153, SlO.nil, hw.below, (Hs.pick [[bx (γ1 2) (#[.int .i64 ((sleepV now ts rs o.vcpu (otV now o.on o.time)).1), .slice q153 m153 c153, .slice p153 k153 d153]) 27], [bx (γ1 1) (#[.int .i64 now, .slice p n cap, .slice pa na ca]) 27], [bx (γ1 0) (#[.int .i64 o.kind, .int .i64 o.vcpu, .int .i64 o.al.vcpu, .int .i64 o.al.port, .int .i64 o.al.every, .int .i64 o.time, .bool o.on]) 34], Y153, Yx153] [3, 4] [0, 1, 2] (by kernel_rfl) hw)⟩
     ·
      refine qa [(0, .no)] [2, 3, 4, 5, 14] [(46, .bool false)] ([¬ ((kdV o.kind : Int) = (3 : Int))]) (al1 q27) (ds_ (f_ (sq_ ?_)))
      by_cases q319 : (kdV o.kind : Int) = (4 : Int)
      ·
       refine qa [(0, .yes)] [2, 3, 4, 5] [(58, .bool true)] ([(kdV o.kind : Int) = (4 : Int)]) (al1 q319) (ds_ (t_ (ao_ (qo0 3 [(0, .go (owns 1 0 3)), (2, .go (owns 2 1 1))] [4, 5] [(61, .agg #[.int .i64 now, .slice p n cap, .slice pa na ca]), (63, .int .i64 o.vcpu)] (cP (fun v L' => ∃ q_ m_ c_ Y_ q2_ m2_ c2_ X_, v = .tuple #[.agg #[.int .i64 ((wakeV now ts rs o.vcpu).1), .slice q_ m_ c_, .slice q2_ m2_ c2_], .int .i64 ((wakeV now ts rs o.vcpu).2.2.2)] ∧ L' = List.take 3 ([bx (γ1 2) (#[.int .i64 0, .slice none 0 0, .slice none 0 0]) 27, bx (γ1 1) (#[.int .i64 now, .slice p n cap, .slice pa na ca]) 27, bx (γ1 0) (#[.int .i64 o.kind, .int .i64 o.vcpu, .int .i64 o.al.vcpu, .int .i64 o.al.port, .int .i64 o.al.every, .int .i64 o.time, .bool o.on]) 34]) ++ (Y_ ++ (X_ ++ List.drop 3 ([bx (γ1 2) (#[.int .i64 0, .slice none 0 0, .slice none 0 0]) 27, bx (γ1 1) (#[.int .i64 now, .slice p n cap, .slice pa na ca]) 27, bx (γ1 0) (#[.int .i64 o.kind, .int .i64 o.vcpu, .int .i64 o.al.vcpu, .int .i64 o.al.port, .int .i64 o.al.every, .int .i64 o.time, .bool o.on]) 34]))) ∧ SlO 42 Y_ q_ m_ c_ ((wakeV now ts rs o.vcpu).2.1) ∧ SlO 32 X_ q2_ m2_ c2_ ((wakeV now ts rs o.vcpu).2.2.1)) (fun args w => Tryz.call22 args w) (fun w hw => (rwake_t now p n cap ts pa na ca rs o.vcpu w (hts.kept hw.below) hn (by omega) (hrs.kept hw.below) hna (by omega) q3).mono fun e w' ⟨q_, m_, c_, Y_, q2_, m2_, c2_, X_, he, h1, h2, hb, hY⟩ => ⟨_, _, he, ⟨q_, m_, c_, Y_, q2_, m2_, c2_, X_, rfl, rfl, h1, h2⟩, hw.joinT hb hY 3⟩) ?_)))))
       rintro v322 L322 ⟨q322, m322, c322, Y322, p322, k322, d322, Yx322, rfl, rfl, hO322, hP322⟩
       refine mo0 5 [(7, .go (owns 0 0 3))] [4, 5] (fun _ => [(6, .int .i64 ((wakeV now ts rs o.vcpu).2.2.2))]) (fun _ L => (L.set 0 (bx (γ1 2) (#[.int .i64 ((wakeV now ts rs o.vcpu).1), .slice q322 m322 c322, .slice p322 k322 d322]) 27))) (fun _ => on_ (done_block (ds_ (sq_ (qa0 [(0, .go (owns 0 0 3)), (3, .go (owns 0 0 3))] [4] [(5, .slice none 0 0), (6, .int .i64 ((wakeV now ts rs o.vcpu).2.2.2))] (ds_ (rt (owns 0 0 3) (.tuple #[.agg #[.int .i64 ((wakeV now ts rs o.vcpu).1), .slice q322 m322 c322, .slice p322 k322 d322], .slice none 0 0, .int .i64 ((wakeV now ts rs o.vcpu).2.2.2)]) ?_)))))))
       have hop := op_4 q319 (now := now) (ts := ts) (rs := rs) (o := o)
       exact fun w' hw => by rw [hop.1, hop.2]; exact ⟨_, _, _, _, _, _, _, _, _, _, _, _, rfl, hO322, hP322, SlO.nil, hw.below, (Hs.pick [[bx (γ1 2) (#[.int .i64 ((wakeV now ts rs o.vcpu).1), .slice q322 m322 c322, .slice p322 k322 d322]) 27], [bx (γ1 1) (#[.int .i64 now, .slice p n cap, .slice pa na ca]) 27], [bx (γ1 0) (#[.int .i64 o.kind, .int .i64 o.vcpu, .int .i64 o.al.vcpu, .int .i64 o.al.port, .int .i64 o.al.every, .int .i64 o.time, .bool o.on]) 34], Y322, Yx322] [3, 4] [0, 1, 2] (by kernel_rfl) hw)⟩
      ·
       refine qa [(0, .no)] [2, 3, 4, 5] [(58, .bool false)] ([¬ ((kdV o.kind : Int) = (4 : Int))]) (al1 q319) (ds_ (f_ (at_calmTo (f := 8) 4 rfl (by kernel_rfl) (by kernel_rfl) (by kernel_rfl) (by kernel_rfl) (by kernel_rfl) (by kernel_rfl) ?_)))
       refine cm 3 [(0, .go (owns 1 0 3)), (1, .go (owns 2 0 7)), (2, .go (owns 1 0 3))] [4] [(16, .agg #[.int .i64 now, .slice p n cap, .slice pa na ca]), (17, .agg #[.int .i64 o.kind, .int .i64 o.vcpu, .int .i64 o.al.vcpu, .int .i64 o.al.port, .int .i64 o.al.every, .int .i64 o.time, .bool o.on]), (18, .agg #[.int .i64 now, .slice p n cap, .slice pa na ca])] ([]) (by kernel_rfl) rfl al0 ?_
       refine cK (.int .i64 (otV now o.on o.time)) (fun args w => Tryz.call14 args w) (fun w hw => ot_t o now p n cap ts pa na ca rs w (al_iff.1 q3).gw.n0 (al_iff.1 q3).gw.n1) ?_
       refine calm_nil' ?_
       refine done_pre (li' := #[true, true, true, true, false, false, false, false, false, false, false, false]) (by kernel_rfl) ?_
       refine any_cutX (V := (List Ob) × (List Ob) × (List Ob) × (Nat) × (Nat) × (Nat) × (Nat) × (Nat) × (Nat) × (Option Addr) × (Option Addr) × (Option Addr)) (fun ⟨Y410, Yx410, Yz410, c410, d410, dz410, k410, kz410, m410, p410, pz410, q410⟩ => SlO 42 Y410 q410 m410 c410 ((passA now ts rs (otV now o.on o.time)).2.1) ∧ SlO 32 Yx410 p410 k410 d410 ((passA now ts rs (otV now o.on o.time)).2.2.1) ∧ SlO 50 Yz410 pz410 kz410 dz410 (passR now ts rs (otV now o.on o.time))) 0 #[true, true, true, true, true, true, true, true, true, true, true, true] (fun ⟨Y410, Yx410, Yz410, c410, d410, dz410, k410, kz410, m410, p410, pz410, q410⟩ => [(4, .pointer (some ⟨γ1 2, 0, none⟩)), (5, .slice pz410 kz410 dz410), (6, .int .i64 ((passA now ts rs (otV now o.on o.time)).2.2.2))]) (fun ⟨Y410, Yx410, Yz410, c410, d410, dz410, k410, kz410, m410, p410, pz410, q410⟩ => bx (γ1 2) (#[.int .i64 ((passA now ts rs (otV now o.on o.time)).1), .slice q410 m410 c410, .slice p410 k410 d410]) 27 :: bx (γ1 1) (#[.int .i64 now, .slice p n cap, .slice pa na ca]) 27 :: bx (γ1 0) (#[.int .i64 o.kind, .int .i64 o.vcpu, .int .i64 o.al.vcpu, .int .i64 o.al.port, .int .i64 o.al.every, .int .i64 o.time, .bool o.on]) 34 :: (Y410 ++ (Yx410 ++ (Yz410 ++ [])))) ?_ (fun hmx2 => ?_)
       rotate_left
       ·
        refine any_cutX (V := (List Ob) × (List Ob) × (List Ob) × (Nat) × (Nat) × (Nat) × (Nat) × (Nat) × (Nat) × (Option Addr) × (Option Addr) × (Option Addr)) (fun ⟨Y410, Yx410, Yz410, c410, d410, dz410, k410, kz410, m410, p410, pz410, q410⟩ => SlO 42 Y410 q410 m410 c410 ((passA now ts rs (otV now o.on o.time)).2.1) ∧ SlO 32 Yx410 p410 k410 d410 ((passA now ts rs (otV now o.on o.time)).2.2.1) ∧ SlO 50 Yz410 pz410 kz410 dz410 (passR now ts rs (otV now o.on o.time))) 3 #[true, true, true, true, true, true, true, true, true, false, false, false] (fun ⟨Y410, Yx410, Yz410, c410, d410, dz410, k410, kz410, m410, p410, pz410, q410⟩ => [(4, .pointer (some ⟨γ1 2, 0, none⟩)), (21, .agg #[.int .i64 ((passA now ts rs (otV now o.on o.time)).1), .slice q410 m410 c410, .slice p410 k410 d410]), (22, .slice pz410 kz410 dz410), (23, .int .i64 ((passA now ts rs (otV now o.on o.time)).2.2.2))]) (fun ⟨Y410, Yx410, Yz410, c410, d410, dz410, k410, kz410, m410, p410, pz410, q410⟩ => bx (γ1 2) (#[.int .i64 0, .slice none 0 0, .slice none 0 0]) 27 :: bx (γ1 1) (#[.int .i64 now, .slice p n cap, .slice pa na ca]) 27 :: bx (γ1 0) (#[.int .i64 o.kind, .int .i64 o.vcpu, .int .i64 o.al.vcpu, .int .i64 o.al.port, .int .i64 o.al.every, .int .i64 o.time, .bool o.on]) 34 :: (Y410 ++ (Yx410 ++ (Yz410 ++ [])))) ?_ (fun hmx1 => ?_)
        ·
         rintro ⟨Y410, Yx410, Yz410, c410, d410, dz410, k410, kz410, m410, p410, pz410, q410⟩ ⟨hO410, hP410, hZ410⟩
         refine a1 9 rfl ?_
         refine mo0 1 [(9, .go (owns 0 0 3))] [4, 22, 23] (fun _ => []) (fun _ L => (L.set 0 (bx (γ1 2) (#[.int .i64 ((passA now ts rs (otV now o.on o.time)).1), .slice q410 m410 c410, .slice p410 k410 d410]) 27))) (fun _ => ?_)
         refine od_ ?_
         refine tk (m := 0) [10, 11] [] [4] [(5, .slice pz410 kz410 dz410), (6, .int .i64 ((passA now ts rs (otV now o.on o.time)).2.2.2))] ([]) #[true, true, true, true, true, true, true, true, true, true, true, true] al0 ?_
         exact wk (hmx2 (Y410, Yx410, Yz410, c410, d410, dz410, k410, kz410, m410, p410, pz410, q410) ⟨hO410, hP410, hZ410⟩) [4, 5, 6] [[_], [_], [_], _, _, _] [0, 1, 2, 3, 4, 5] rfl rfl
        refine a1 4 rfl ?_
        refine cP (fun v L' => ∃ q_ m_ c_ Y_ q2_ m2_ c2_ X_ q3_ m3_ c3_ Z_, v = .tuple #[.agg #[.int .i64 ((passA now ts rs (otV now o.on o.time)).1), .slice q_ m_ c_, .slice q2_ m2_ c2_], .slice q3_ m3_ c3_, .int .i64 ((passA now ts rs (otV now o.on o.time)).2.2.2)] ∧ L' = List.take 3 ([bx (γ1 2) (#[.int .i64 0, .slice none 0 0, .slice none 0 0]) 27, bx (γ1 1) (#[.int .i64 now, .slice p n cap, .slice pa na ca]) 27, bx (γ1 0) (#[.int .i64 o.kind, .int .i64 o.vcpu, .int .i64 o.al.vcpu, .int .i64 o.al.port, .int .i64 o.al.every, .int .i64 o.time, .bool o.on]) 34]) ++ (Y_ ++ (X_ ++ (Z_ ++ List.drop 3 ([bx (γ1 2) (#[.int .i64 0, .slice none 0 0, .slice none 0 0]) 27, bx (γ1 1) (#[.int .i64 now, .slice p n cap, .slice pa na ca]) 27, bx (γ1 0) (#[.int .i64 o.kind, .int .i64 o.vcpu, .int .i64 o.al.vcpu, .int .i64 o.al.port, .int .i64 o.al.every, .int .i64 o.time, .bool o.on]) 34])))) ∧ SlO 42 Y_ q_ m_ c_ ((passA now ts rs (otV now o.on o.time)).2.1) ∧ SlO 32 X_ q2_ m2_ c2_ ((passA now ts rs (otV now o.on o.time)).2.2.1) ∧ SlO 50 Z_ q3_ m3_ c3_ (passR now ts rs (otV now o.on o.time))) (fun args w => Tryz.call23 args w) (fun w hw => (rpass8_t now p n cap ts pa na ca rs (otV now o.on o.time) w (hts.kept hw.below) hn (by omega) (hrs.kept hw.below) hna (by omega) q3).mono fun e w' ⟨q_, m_, c_, Y_, q2_, m2_, c2_, X_, q3_, m3_, c3_, Z_, he, h1, h2, h3, hb, hY⟩ => ⟨_, _, he, ⟨q_, m_, c_, Y_, q2_, m2_, c2_, X_, q3_, m3_, c3_, Z_, rfl, rfl, h1, h2, h3⟩, hw.joinZ hb hY 3⟩) ?_
        rintro v410 L410 ⟨q410, m410, c410, Y410, p410, k410, d410, Yx410, pz410, kz410, dz410, Yz410, rfl, rfl, hO410, hP410, hZ410⟩
        refine od_ ?_
        refine tk (m := 3) [5, 6, 7, 8] [] [4] [(21, .agg #[.int .i64 ((passA now ts rs (otV now o.on o.time)).1), .slice q410 m410 c410, .slice p410 k410 d410]), (22, .slice pz410 kz410 dz410), (23, .int .i64 ((passA now ts rs (otV now o.on o.time)).2.2.2))] ([]) #[true, true, true, true, true, true, true, true, true, false, false, false] al0 ?_
        exact wk (hmx1 (Y410, Yx410, Yz410, c410, d410, dz410, k410, kz410, m410, p410, pz410, q410) ⟨hO410, hP410, hZ410⟩) [4, 21, 22, 23] [[_], [_], [_], _, _, _] [0, 1, 2, 3, 4, 5] rfl rfl
       rintro ⟨Y410, Yx410, Yz410, c410, d410, dz410, k410, kz410, m410, p410, pz410, q410⟩ ⟨hO410, hP410, hZ410⟩
       refine any_nil (by kernel_rfl) ?_
       refine done_block (ds_ (sq_ (qa0 [(0, .go (owns 0 0 3)), (3, .go (owns 0 0 3))] [4] [(5, .slice pz410 kz410 dz410), (6, .int .i64 ((passA now ts rs (otV now o.on o.time)).2.2.2))] (ds_ (rt (owns 0 0 3) (.tuple #[.agg #[.int .i64 ((passA now ts rs (otV now o.on o.time)).1), .slice q410 m410 c410, .slice p410 k410 d410], .slice pz410 kz410 dz410, .int .i64 ((passA now ts rs (otV now o.on o.time)).2.2.2)]) ?_)))))
       have hop := op_5 (fun h => of_decide_eq_false q17 (.inl h)) (fun h => of_decide_eq_false q17 (.inr h)) q19 q27 q319 (now := now) (ts := ts) (rs := rs) (o := o)
       exact fun w' hw => by rw [hop.1, hop.2]; exact ⟨_, _, _, _, _, _, _, _, _, _, _, _, rfl, hO410, hP410, hZ410, hw.below, three_tails (Hs.pick [[bx (γ1 2) (#[.int .i64 ((passA now ts rs (otV now o.on o.time)).1), .slice q410 m410 c410, .slice p410 k410 d410]) 27], [bx (γ1 1) (#[.int .i64 now, .slice p n cap, .slice pa na ca]) 27], [bx (γ1 0) (#[.int .i64 o.kind, .int .i64 o.vcpu, .int .i64 o.al.vcpu, .int .i64 o.al.port, .int .i64 o.al.every, .int .i64 o.time, .bool o.on]) 34], Y410, Yx410, Yz410] [3, 4, 5] [0, 1, 2] (by kernel_rfl) hw)⟩
   ·
    refine t_ (at_calmTo (f := 6) 6 rfl (by kernel_rfl) (by kernel_rfl) (by kernel_rfl) (by kernel_rfl) (by kernel_rfl) (by kernel_rfl) ?_)
    refine cm 5 [(0, .go (owns 1 0 3)), (2, .go (owns 2 2 3)), (3, .go (owns 2 0 7)), (4, .go (owns 1 0 3))] [4, 5] [(28, .agg #[.int .i64 now, .slice p n cap, .slice pa na ca]), (30, .agg #[.int .i64 o.al.vcpu, .int .i64 o.al.port, .int .i64 o.al.every]), (31, .agg #[.int .i64 o.kind, .int .i64 o.vcpu, .int .i64 o.al.vcpu, .int .i64 o.al.port, .int .i64 o.al.every, .int .i64 o.time, .bool o.on]), (32, .agg #[.int .i64 now, .slice p n cap, .slice pa na ca])] ([]) (by kernel_rfl) rfl al0 ?_
    refine cK (.int .i64 (otV now o.on o.time)) (fun args w => Tryz.call14 args w) (fun w hw => ot_t o now p n cap ts pa na ca rs w (al_iff.1 q3).gw.n0 (al_iff.1 q3).gw.n1) ?_
    refine calm_nil' ?_
    refine done_pre (li' := #[true, true, true, true, true, true, false, false, false, false, false, false]) (by kernel_rfl) ?_
    refine any_cutX (V := (List Ob) × (List Ob) × (Nat) × (Nat) × (Nat) × (Nat) × (Option Addr) × (Option Addr)) (fun ⟨Y738, Yx738, c738, d738, k738, m738, p738, q738⟩ => SlO 42 Y738 q738 m738 c738 ((startV now ts rs o.al (otV now o.on o.time)).2.1) ∧ SlO 32 Yx738 p738 k738 d738 ((startV now ts rs o.al (otV now o.on o.time)).2.2.1)) 0 #[true, true, true, true, true, true, true, true, true, true, true, true] (fun ⟨Y738, Yx738, c738, d738, k738, m738, p738, q738⟩ => [(4, .pointer (some ⟨γ1 2, 0, none⟩)), (5, .slice none 0 0), (6, .int .i64 ((startV now ts rs o.al (otV now o.on o.time)).2.2.2))]) (fun ⟨Y738, Yx738, c738, d738, k738, m738, p738, q738⟩ => bx (γ1 2) (#[.int .i64 ((startV now ts rs o.al (otV now o.on o.time)).1), .slice q738 m738 c738, .slice p738 k738 d738]) 27 :: bx (γ1 1) (#[.int .i64 now, .slice p n cap, .slice pa na ca]) 27 :: bx (γ1 0) (#[.int .i64 o.kind, .int .i64 o.vcpu, .int .i64 o.al.vcpu, .int .i64 o.al.port, .int .i64 o.al.every, .int .i64 o.time, .bool o.on]) 34 :: (Y738 ++ (Yx738 ++ []))) ?_ (fun hmx2 => ?_)
    rotate_left
    ·
     refine any_cutX (V := (List Ob) × (List Ob) × (Nat) × (Nat) × (Nat) × (Nat) × (Option Addr) × (Option Addr)) (fun ⟨Y738, Yx738, c738, d738, k738, m738, p738, q738⟩ => SlO 42 Y738 q738 m738 c738 ((startV now ts rs o.al (otV now o.on o.time)).2.1) ∧ SlO 32 Yx738 p738 k738 d738 ((startV now ts rs o.al (otV now o.on o.time)).2.2.1)) 2 #[true, true, true, true, true, true, true, true, true, true, false, false] (fun ⟨Y738, Yx738, c738, d738, k738, m738, p738, q738⟩ => [(4, .pointer (some ⟨γ1 2, 0, none⟩)), (5, .slice none 0 0), (35, .agg #[.int .i64 ((startV now ts rs o.al (otV now o.on o.time)).1), .slice q738 m738 c738, .slice p738 k738 d738]), (36, .int .i64 ((startV now ts rs o.al (otV now o.on o.time)).2.2.2))]) (fun ⟨Y738, Yx738, c738, d738, k738, m738, p738, q738⟩ => bx (γ1 2) (#[.int .i64 0, .slice none 0 0, .slice none 0 0]) 27 :: bx (γ1 1) (#[.int .i64 now, .slice p n cap, .slice pa na ca]) 27 :: bx (γ1 0) (#[.int .i64 o.kind, .int .i64 o.vcpu, .int .i64 o.al.vcpu, .int .i64 o.al.port, .int .i64 o.al.every, .int .i64 o.time, .bool o.on]) 34 :: (Y738 ++ (Yx738 ++ []))) ?_ (fun hmx1 => ?_)
     ·
      rintro ⟨Y738, Yx738, c738, d738, k738, m738, p738, q738⟩ ⟨hO738, hP738⟩
      refine a1 10 rfl ?_
      refine mo0 1 [(10, .go (owns 0 0 3))] [4, 5, 36] (fun _ => []) (fun _ L => (L.set 0 (bx (γ1 2) (#[.int .i64 ((startV now ts rs o.al (otV now o.on o.time)).1), .slice q738 m738 c738, .slice p738 k738 d738]) 27))) (fun _ => ?_)
      refine od_ ?_
      refine tk (m := 0) [11] [] [4, 5] [(6, .int .i64 ((startV now ts rs o.al (otV now o.on o.time)).2.2.2))] ([]) #[true, true, true, true, true, true, true, true, true, true, true, true] al0 ?_
      exact wk (hmx2 (Y738, Yx738, c738, d738, k738, m738, p738, q738) ⟨hO738, hP738⟩) [4, 5, 6] [[_], [_], [_], _, _] [0, 1, 2, 3, 4] rfl rfl
     refine a1 6 rfl ?_
     refine cP (fun v L' => ∃ q_ m_ c_ Y_ q2_ m2_ c2_ X_, v = .tuple #[.agg #[.int .i64 ((startV now ts rs o.al (otV now o.on o.time)).1), .slice q_ m_ c_, .slice q2_ m2_ c2_], .int .i64 ((startV now ts rs o.al (otV now o.on o.time)).2.2.2)] ∧ L' = List.take 3 ([bx (γ1 2) (#[.int .i64 0, .slice none 0 0, .slice none 0 0]) 27, bx (γ1 1) (#[.int .i64 now, .slice p n cap, .slice pa na ca]) 27, bx (γ1 0) (#[.int .i64 o.kind, .int .i64 o.vcpu, .int .i64 o.al.vcpu, .int .i64 o.al.port, .int .i64 o.al.every, .int .i64 o.time, .bool o.on]) 34]) ++ (Y_ ++ (X_ ++ List.drop 3 ([bx (γ1 2) (#[.int .i64 0, .slice none 0 0, .slice none 0 0]) 27, bx (γ1 1) (#[.int .i64 now, .slice p n cap, .slice pa na ca]) 27, bx (γ1 0) (#[.int .i64 o.kind, .int .i64 o.vcpu, .int .i64 o.al.vcpu, .int .i64 o.al.port, .int .i64 o.al.every, .int .i64 o.time, .bool o.on]) 34]))) ∧ SlO 42 Y_ q_ m_ c_ ((startV now ts rs o.al (otV now o.on o.time)).2.1) ∧ SlO 32 X_ q2_ m2_ c2_ ((startV now ts rs o.al (otV now o.on o.time)).2.2.1)) (fun args w => Tryz.call19 args w) (fun w hw => (rstart_t now p n cap ts pa na ca rs o.al (otV now o.on o.time) w (hts.kept hw.below) hn (by omega) (hrs.kept hw.below) hna (by omega) q3).mono fun e w' ⟨q_, m_, c_, Y_, q2_, m2_, c2_, X_, he, h1, h2, hb, hY⟩ => ⟨_, _, he, ⟨q_, m_, c_, Y_, q2_, m2_, c2_, X_, rfl, rfl, h1, h2⟩, hw.joinT hb hY 3⟩) ?_
     rintro v738 L738 ⟨q738, m738, c738, Y738, p738, k738, d738, Yx738, rfl, rfl, hO738, hP738⟩
     refine od_ ?_
     refine tk (m := 2) [7, 8, 9] [] [4, 5] [(35, .agg #[.int .i64 ((startV now ts rs o.al (otV now o.on o.time)).1), .slice q738 m738 c738, .slice p738 k738 d738]), (36, .int .i64 ((startV now ts rs o.al (otV now o.on o.time)).2.2.2))] ([]) #[true, true, true, true, true, true, true, true, true, true, false, false] al0 ?_
     exact wk (hmx1 (Y738, Yx738, c738, d738, k738, m738, p738, q738) ⟨hO738, hP738⟩) [4, 5, 35, 36] [[_], [_], [_], _, _] [0, 1, 2, 3, 4] rfl rfl
    rintro ⟨Y738, Yx738, c738, d738, k738, m738, p738, q738⟩ ⟨hO738, hP738⟩
    refine any_nil (by kernel_rfl) ?_
    refine done_block (ds_ (sq_ (qa0 [(0, .go (owns 0 0 3)), (3, .go (owns 0 0 3))] [4] [(5, .slice none 0 0), (6, .int .i64 ((startV now ts rs o.al (otV now o.on o.time)).2.2.2))] (ds_ (rt (owns 0 0 3) (.tuple #[.agg #[.int .i64 ((startV now ts rs o.al (otV now o.on o.time)).1), .slice q738 m738 c738, .slice p738 k738 d738], .slice none 0 0, .int .i64 ((startV now ts rs o.al (otV now o.on o.time)).2.2.2)]) ?_)))))
    have hop := op_01 (of_decide_eq_true q17) (now := now) (ts := ts) (rs := rs) (o := o)
    exact fun w' hw => by rw [hop.1, hop.2]; exact ⟨_, _, _, _, _, _, _, _, _, _, _, _, rfl, hO738, hP738, SlO.nil, hw.below, (Hs.pick [[bx (γ1 2) (#[.int .i64 ((startV now ts rs o.al (otV now o.on o.time)).1), .slice q738 m738 c738, .slice p738 k738 d738]) 27], [bx (γ1 1) (#[.int .i64 now, .slice p n cap, .slice pa na ca]) 27], [bx (γ1 0) (#[.int .i64 o.kind, .int .i64 o.vcpu, .int .i64 o.al.vcpu, .int .i64 o.al.port, .int .i64 o.al.every, .int .i64 o.time, .bool o.on]) 34], Y738, Yx738] [3, 4] [0, 1, 2] (by kernel_rfl) hw)⟩
end Go.Proofs.YtdbamgbgnpadjaaGreat
