/- Texts of this proof, one behind the other. -/
import Derived.Test.YtfhlmijdokfdpaaZd
import Derived.Test.YtfhlmijdokfdpaaZf
/-! EventDoes: the walk. -/
namespace Go.Proofs.Ytfhlmijdokfdpaa
open Go Go.RowKit

set_option maxRecDepth 100000 in
set_option maxHeartbeats 8000000 in
theorem does_d (p : Option Addr) (n cap : Nat) (l : List Port) (q : Option Addr) (m cap2 : Nat) (ol : List OpA) (w : World)
 (hsl : Sv w p l) (hn : n = l.length) (hcap : n ≤ cap) (hbig : cap ≤ 9223372036854775807)
 (hol : Sv w q ol) (hmo : m = ol.length) (hbig2 : m ≤ 9223372036854775807)
 : Calls Try.prog 6 #[.agg #[.slice p n cap], .slice q m cap2] w fun e w' => e = .returned (.bool true) ∧ Below w.heap.size w w' := by
 refine enter (Hs.start w) Try.func6 rfl Try.ntmps6 rfl (sq_ (ma0 [] [1] (fun γ1 => [(2, .pointer (some ⟨γ1 0, 0, none⟩))]) (fun γ1 L => bx (γ1 0) (#[.slice p n cap]) 24 :: L) (fun γ1 => ds_ (sq_ (sq_ (ao_ (cD (.bool true) Try.call10 (fun w hw => wakes_d w) (qo0 1 [] [1, 2] [(14, .bool false)] (on_ (ds_ (f_ (at_skip (ds_ (sq_ (ao_ (qo0 1 [(0, .go (owns 0 0 1))] [1] [(15, .agg #[.slice p n cap])] (cN 1 (fun v Y => ∃ q m capq, v = .agg #[.slice q m capq] ∧ SlO 40 Y q m capq (l.take 33) ∧ m ≤ 33) Try.call11 (fun w hw => (short_d p n cap l w (hsl.kept hw.below) hn (by omega) (by omega)).mono fun e w' ⟨q, m, capq, Y, he, hO, hm, hb, hY⟩ => ⟨_, _, he, ⟨q, m, capq, rfl, hO, hm⟩, hb, hY⟩) ?_)))))))))))))))))
 rintro v5 Y5 ⟨q5, m5, cq5, rfl, hO5, hm5⟩
 refine mo0 2 [(3, .go (owns 0 0 1))] [1] (fun γ6 => [(5, .pointer (some ⟨γ6 0, 0, none⟩))]) (fun γ6 L => bx (γ6 0) (#[.slice q5 m5 cq5]) 24 :: L) (fun γ6 => on_ (ds_ (sq_ (sq_ (qa0 [] [5] [(17, .slice q m cap2), (18, .int .i64 ((m : Nat))), (19, .int .i64 0)] (ds_ (at_block (at_loop (α := Nat × List Port × List Ob × Option Addr × Nat × Nat) [5, 17, 18, 19] (fun ⟨j, lp, Yp, qp, mp, cp⟩ => [(5, .pointer (some ⟨γ6 0, 0, none⟩)), (17, .slice q m cap2), (18, .int .i64 ((m : Nat))), (19, .int .i64 ((j : Nat)))]) (fun ⟨j, lp, Yp, qp, mp, cp⟩ => bx (γ6 0) (#[.slice qp mp cp]) 24 :: bx (γ1 0) (#[.slice p n cap]) 24 :: (Yp ++ [])) (fun ⟨j, lp, Yp, qp, mp, cp⟩ => j ≤ m ∧ mp ≤ 33 ∧ SlO 40 Yp qp mp cp lp) (fun ⟨j, lp, Yp, qp, mp, cp⟩ => m - j) (0, (l.take 33), Y5, q5, m5, cq5) (by kernel_rfl) rfl ⟨Nat.zero_le _, by omega, hO5⟩ ?_))))))))
 rintro ⟨j, lp, Yp, qp, mp, cp⟩
 rintro ⟨hj, hm33, hP⟩
 have hmp := hP.len
 refine sq_ ?_
 by_cases q9 : ((j : Nat) : Int) < ((m : Nat) : Int)
 ·
  refine qa [(0, .yes)] [5, 17, 18, 19] [(20, .bool true)] ([((j : Nat) : Int) < ((m : Nat) : Int)]) (al1 q9) (ds_ (sq_ (t_ (at_skip (ds_ (sq_ (at_block (sq_ ?_))))))))
  obtain ⟨b12, o12, rfl⟩ := hol.pos (i := j) (by omega)
  obtain ⟨x14, hx14⟩ := get_some (l := ol) (m := j) (by omega)
  refine ma [(1, .at b12 o12 j), (2, .go (outs b12 (o12 + j * 5) [.int .i64 x14.kind, .int .i64 x14.a, .int .i64 x14.b, .int .i64 x14.vcpu, .bool x14.on])), (5, .go (owns 0 0 5))] [5, 17, 18, 19] (fun γ15 => [(6, .int .i64 ((j : Nat))), (7, .pointer (some ⟨γ15 0, 0, none⟩))]) (fun γ15 L => bx (γ15 0) (#[.int .i64 x14.kind, .int .i64 x14.a, .int .i64 x14.b, .int .i64 x14.vcpu, .bool x14.on]) 51 :: L) (fun γ15 => [(some ⟨b12, o12, none⟩ : Option Addr) = some ⟨b12, o12, none⟩, ((j : Nat)) = ((j : Nat) : Int), j < m] ++ (cellsP w b12 (o12 + j * 5) [.int .i64 x14.kind, .int .i64 x14.a, .int .i64 x14.b, .int .i64 x14.vcpu, .bool x14.on])) (fun γ15 => (alA (al2 rfl (al2 rfl (al1 (by omega)))) (rd_pre (hol.get hx14) _ rfl))) (fun γ15 => ds_ (sq_ (sq_ ?_)))
  by_cases q17 : ((j : Nat) : Int) = (40 : Int)
  ·
   refine qa [(1, .yes)] [5, 7, 17, 18, 19] [(25, .bool true)] ([((j : Nat) : Int) = (40 : Int)]) (al1 q17) (ds_ (t_ (at_leave _ rfl (ds_ (sq_ (qa0 [] [] [(4, .bool true)] (ds_ (rt ([]) (.bool true) ?_))))))))
   exact fun w' hw => ⟨rfl, hw.below⟩
  ·
   refine qa [(1, .no)] [5, 7, 17, 18, 19] [(25, .bool false)] ([¬ (((j : Nat) : Int) = (40 : Int))]) (al1 q17) (ds_ (f_ (at_skip (ds_ (sq_ (ao_ (qo0 1 [(0, .go (owns 1 0 1))] [5, 7, 17, 18, 19] [(26, .agg #[.slice qp mp cp])] (cN 3 (fun v Y_ => ∃ q_ m_ c_, v = .agg #[.slice q_ m_ c_] ∧ SlO 40 Y_ q_ m_ c_ lp ∧ m_ ≤ 33) Try.call11 (fun w hw => by have := short_d qp mp cp lp w (hP.atN (A := [_, _, _]) hw) hP.len (by have := hP.le; omega) (by have := hP.maxc; omega); rw [show lp.take 33 = lp from List.take_of_length_le (by have := hP.len; omega)] at this; exact this.mono fun e w' ⟨q_, m_, c_, Y_, he, hO, hm, hb, hY⟩ => ⟨_, _, he, ⟨q_, m_, c_, rfl, hO, hm⟩, hb, hY⟩) ?_))))))))
   rintro v22 Y22 ⟨q22, m22, cq22, rfl, hO22, hm22⟩
   refine mo0 2 [(3, .go (owns 0 0 1))] [5, 7, 17, 18, 19] (fun γ23 => [(8, .pointer (some ⟨γ23 0, 0, none⟩))]) (fun γ23 L => bx (γ23 0) (#[.slice q22 m22 cq22]) 24 :: L) (fun γ23 => on_ (ds_ (sq_ ?_)))
   refine at_any (by kernel_rfl) ?_
   refine any_cutX (V := (List Ob) × (List Ob) × (List Ob) × (Nat) × (Nat) × (Nat) × (Nat) × (Nat) × (Nat) × (Option Addr) × (Option Addr) × (Option Addr) × (Nat → Nat) × (Nat → Nat)) (fun ⟨Y126, Y146, Y66, cq126, cq146, cq66, m126, m146, m66, q126, q146, q66, γ166, γ186⟩ => SlO 40 Y126 q126 m126 cq126 lp ∧ SlO 40 Y146 q146 m146 cq146 (runV lp x14).1 ∧ SlO 40 Y66 q66 m66 cq66 (runV lp x14).1 ∧ m126 ≤ 33) 0 #[true, true, true, true, true, true, true, true, true, true, true] (fun ⟨Y126, Y146, Y66, cq126, cq146, cq66, m126, m146, m66, q126, q146, q66, γ166, γ186⟩ => [(5, .pointer (some ⟨γ6 0, 0, none⟩)), (8, .pointer (some ⟨γ23 0, 0, none⟩)), (9, .pointer (some ⟨γ166 0, 0, none⟩)), (10, .pointer (some ⟨γ186 0, 0, none⟩)), (17, .slice (some ⟨b12, o12, none⟩) m cap2), (18, .int .i64 ((m : Nat))), (19, .int .i64 ((j : Nat)))]) (fun ⟨Y126, Y146, Y66, cq126, cq146, cq66, m126, m146, m66, q126, q146, q66, γ166, γ186⟩ => bx (γ186 0) (#[.slice q146 m146 cq146, .int .i64 ((runV lp x14).2.1), .bool ((runV lp x14).2.2.1), .int .i64 ((runV lp x14).2.2.2)]) 53 :: bx (γ166 0) (#[.slice q66 m66 cq66, .int .i64 ((runV lp x14).2.1), .bool ((runV lp x14).2.2.1), .int .i64 ((runV lp x14).2.2.2)]) 53 :: bx (γ23 0) (#[.slice q22 m22 cq22]) 24 :: bx (γ15 0) (#[.int .i64 x14.kind, .int .i64 x14.a, .int .i64 x14.b, .int .i64 x14.vcpu, .bool x14.on]) 51 :: bx (γ6 0) (#[.slice qp mp cp]) 24 :: bx (γ1 0) (#[.slice p n cap]) 24 :: (Y126 ++ (Y146 ++ (Y66 ++ (Y22 ++ (Yp ++ [])))))) ?_ (fun hmx93 => ?_)
   rotate_left
   ·
    refine any_cutX (V := (List Ob) × (List Ob) × (List Ob) × (Nat) × (Nat) × (Nat) × (Nat) × (Nat) × (Nat) × (Option Addr) × (Option Addr) × (Option Addr) × (Nat → Nat) × (Nat → Nat)) (fun ⟨Y126, Y146, Y66, cq126, cq146, cq66, m126, m146, m66, q126, q146, q66, γ166, γ186⟩ => SlO 40 Y126 q126 m126 cq126 lp ∧ SlO 40 Y146 q146 m146 cq146 (runV lp x14).1 ∧ SlO 40 Y66 q66 m66 cq66 (runV lp x14).1 ∧ m126 ≤ 33) 1 #[true, true, true, true, true, true, true, true, true, true, false] (fun ⟨Y126, Y146, Y66, cq126, cq146, cq66, m126, m146, m66, q126, q146, q66, γ166, γ186⟩ => [(5, .pointer (some ⟨γ6 0, 0, none⟩)), (8, .pointer (some ⟨γ23 0, 0, none⟩)), (9, .pointer (some ⟨γ166 0, 0, none⟩)), (10, .pointer (some ⟨γ186 0, 0, none⟩)), (17, .slice (some ⟨b12, o12, none⟩) m cap2), (18, .int .i64 ((m : Nat))), (19, .int .i64 ((j : Nat))), (34, .agg #[.slice q146 m146 cq146, .int .i64 ((runV lp x14).2.1), .bool ((runV lp x14).2.2.1), .int .i64 ((runV lp x14).2.2.2)])]) (fun ⟨Y126, Y146, Y66, cq126, cq146, cq66, m126, m146, m66, q126, q146, q66, γ166, γ186⟩ => bx (γ186 0) (#[.slice none 0 0, .int .i64 0, .bool false, .int .i64 0]) 53 :: bx (γ166 0) (#[.slice q66 m66 cq66, .int .i64 ((runV lp x14).2.1), .bool ((runV lp x14).2.2.1), .int .i64 ((runV lp x14).2.2.2)]) 53 :: bx (γ23 0) (#[.slice q22 m22 cq22]) 24 :: bx (γ15 0) (#[.int .i64 x14.kind, .int .i64 x14.a, .int .i64 x14.b, .int .i64 x14.vcpu, .bool x14.on]) 51 :: bx (γ6 0) (#[.slice qp mp cp]) 24 :: bx (γ1 0) (#[.slice p n cap]) 24 :: (Y126 ++ (Y146 ++ (Y66 ++ (Y22 ++ (Yp ++ [])))))) ?_ (fun hmx92 => ?_)
    ·
     rintro ⟨Y126, Y146, Y66, cq126, cq146, cq66, m126, m146, m66, q126, q146, q66, γ166, γ186⟩ ⟨hO126, hO146, hO66, hm126⟩
     refine a1 10 rfl ?_
     refine mo0 1 [(10, .go (owns 0 0 4))] [5, 8, 9, 10, 17, 18, 19] (fun _ => []) (fun _ L => (L.set 0 (bx (γ186 0) (#[.slice q146 m146 cq146, .int .i64 ((runV lp x14).2.1), .bool ((runV lp x14).2.2.1), .int .i64 ((runV lp x14).2.2.2)]) 53))) (fun _ => ?_)
     refine od_ ?_
     exact wk (hmx93 (Y126, Y146, Y66, cq126, cq146, cq66, m126, m146, m66, q126, q146, q66, γ166, γ186) ⟨hO126, hO146, hO66, hm126⟩) [5, 8, 9, 10, 17, 18, 19] [[_], [_], [_], [_], [_], [_], _, _, _, _, _] [0, 1, 2, 3, 4, 5, 6, 7, 8, 9, 10] rfl rfl
    refine any_cutX (V := (List Ob) × (List Ob) × (List Ob) × (Nat) × (Nat) × (Nat) × (Nat) × (Nat) × (Nat) × (Option Addr) × (Option Addr) × (Option Addr) × (Nat → Nat) × (Nat → Nat)) (fun ⟨Y126, Y146, Y66, cq126, cq146, cq66, m126, m146, m66, q126, q146, q66, γ166, γ186⟩ => SlO 40 Y126 q126 m126 cq126 lp ∧ SlO 40 Y146 q146 m146 cq146 (runV lp x14).1 ∧ SlO 40 Y66 q66 m66 cq66 (runV lp x14).1 ∧ m126 ≤ 33) 2 #[true, true, true, true, true, true, true, true, true, false, false] (fun ⟨Y126, Y146, Y66, cq126, cq146, cq66, m126, m146, m66, q126, q146, q66, γ166, γ186⟩ => [(5, .pointer (some ⟨γ6 0, 0, none⟩)), (8, .pointer (some ⟨γ23 0, 0, none⟩)), (9, .pointer (some ⟨γ166 0, 0, none⟩)), (10, .pointer (some ⟨γ186 0, 0, none⟩)), (17, .slice (some ⟨b12, o12, none⟩) m cap2), (18, .int .i64 ((m : Nat))), (19, .int .i64 ((j : Nat))), (30, .agg #[.slice q66 m66 cq66, .int .i64 ((runV lp x14).2.1), .bool ((runV lp x14).2.2.1), .int .i64 ((runV lp x14).2.2.2)]), (34, .agg #[.slice q146 m146 cq146, .int .i64 ((runV lp x14).2.1), .bool ((runV lp x14).2.2.1), .int .i64 ((runV lp x14).2.2.2)])]) (fun ⟨Y126, Y146, Y66, cq126, cq146, cq66, m126, m146, m66, q126, q146, q66, γ166, γ186⟩ => bx (γ186 0) (#[.slice none 0 0, .int .i64 0, .bool false, .int .i64 0]) 53 :: bx (γ166 0) (#[.slice none 0 0, .int .i64 0, .bool false, .int .i64 0]) 53 :: bx (γ23 0) (#[.slice q22 m22 cq22]) 24 :: bx (γ15 0) (#[.int .i64 x14.kind, .int .i64 x14.a, .int .i64 x14.b, .int .i64 x14.vcpu, .bool x14.on]) 51 :: bx (γ6 0) (#[.slice qp mp cp]) 24 :: bx (γ1 0) (#[.slice p n cap]) 24 :: (Y126 ++ (Y146 ++ (Y66 ++ (Y22 ++ (Yp ++ [])))))) ?_ (fun hmx91 => ?_)
    ·
     rintro ⟨Y126, Y146, Y66, cq126, cq146, cq66, m126, m146, m66, q126, q146, q66, γ166, γ186⟩ ⟨hO126, hO146, hO66, hm126⟩
     refine a1 9 rfl ?_
     refine mo0 1 [(9, .go (owns 1 0 4))] [5, 8, 9, 10, 17, 18, 19, 34] (fun _ => []) (fun _ L => (L.set 1 (bx (γ166 0) (#[.slice q66 m66 cq66, .int .i64 ((runV lp x14).2.1), .bool ((runV lp x14).2.2.1), .int .i64 ((runV lp x14).2.2.2)]) 53))) (fun _ => ?_)
     refine od_ ?_
     exact wk (hmx92 (Y126, Y146, Y66, cq126, cq146, cq66, m126, m146, m66, q126, q146, q66, γ166, γ186) ⟨hO126, hO146, hO66, hm126⟩) [5, 8, 9, 10, 17, 18, 19, 34] [[_], [_], [_], [_], [_], [_], _, _, _, _, _] [0, 1, 2, 3, 4, 5, 6, 7, 8, 9, 10] rfl rfl
    refine any_cutX (V := (List Ob) × (List Ob) × (Nat) × (Nat) × (Nat) × (Nat) × (Option Addr) × (Option Addr) × (Nat → Nat) × (Nat → Nat)) (fun ⟨Y126, Y66, cq126, cq66, m126, m66, q126, q66, γ166, γ186⟩ => SlO 40 Y126 q126 m126 cq126 lp ∧ SlO 40 Y66 q66 m66 cq66 (runV lp x14).1 ∧ m126 ≤ 33) 3 #[true, true, true, true, true, true, false, true, true, false, false] (fun ⟨Y126, Y66, cq126, cq66, m126, m66, q126, q66, γ166, γ186⟩ => [(5, .pointer (some ⟨γ6 0, 0, none⟩)), (8, .pointer (some ⟨γ23 0, 0, none⟩)), (9, .pointer (some ⟨γ166 0, 0, none⟩)), (10, .pointer (some ⟨γ186 0, 0, none⟩)), (17, .slice (some ⟨b12, o12, none⟩) m cap2), (18, .int .i64 ((m : Nat))), (19, .int .i64 ((j : Nat))), (30, .agg #[.slice q66 m66 cq66, .int .i64 ((runV lp x14).2.1), .bool ((runV lp x14).2.2.1), .int .i64 ((runV lp x14).2.2.2)]), (31, .agg #[.int .i64 x14.kind, .int .i64 x14.a, .int .i64 x14.b, .int .i64 x14.vcpu, .bool x14.on]), (33, .agg #[.slice q126 m126 cq126])]) (fun ⟨Y126, Y66, cq126, cq66, m126, m66, q126, q66, γ166, γ186⟩ => bx (γ186 0) (#[.slice none 0 0, .int .i64 0, .bool false, .int .i64 0]) 53 :: bx (γ166 0) (#[.slice none 0 0, .int .i64 0, .bool false, .int .i64 0]) 53 :: bx (γ23 0) (#[.slice q22 m22 cq22]) 24 :: bx (γ15 0) (#[.int .i64 x14.kind, .int .i64 x14.a, .int .i64 x14.b, .int .i64 x14.vcpu, .bool x14.on]) 51 :: bx (γ6 0) (#[.slice qp mp cp]) 24 :: bx (γ1 0) (#[.slice p n cap]) 24 :: (Y126 ++ (Y66 ++ (Y22 ++ (Yp ++ []))))) ?_ (fun hmx90 => ?_)
    ·
     rintro ⟨Y126, Y66, cq126, cq66, m126, m66, q126, q66, γ166, γ186⟩ ⟨hO126, hO66, hm126⟩
     refine a1 6 rfl ?_
     refine cN 6 (fun v Y_ => ∃ q_ m_ c_, v = .agg #[.slice q_ m_ c_, .int .i64 ((runV lp x14).2.1), .bool ((runV lp x14).2.2.1), .int .i64 ((runV lp x14).2.2.2)] ∧ SlO 40 Y_ q_ m_ c_ (runV lp x14).1) Try.call25 (fun w hw => (wants_d x14 q126 m126 cq126 lp w (hO126.atN (A := [_, _, _, _, _, _]) hw) hO126.len (by omega)).mono fun e w' ⟨q_, m_, c_, Y_, he, hO, hb, hY⟩ => ⟨_, _, he, ⟨q_, m_, c_, rfl, hO⟩, hb, hY⟩) ?_
     rintro v146 Y146 ⟨q146, m146, cq146, rfl, hO146⟩
     refine od_ ?_
     exact wk (hmx91 (Y126, Y146, Y66, cq126, cq146, cq66, m126, m146, m66, q126, q146, q66, γ166, γ186) ⟨hO126, hO146, hO66, hm126⟩) [5, 8, 9, 10, 17, 18, 19, 30, 34] [[_], [_], [_], [_], [_], [_], _, _, _, _, _] [0, 1, 2, 3, 4, 5, 7, 6, 8, 9, 10] rfl rfl
    refine any_cutX (V := (List Ob) × (List Ob) × (List Ob) × (Nat) × (Nat) × (Nat) × (Nat) × (Nat) × (Nat) × (Option Addr) × (Option Addr) × (Option Addr) × (Nat → Nat)) (fun ⟨Y126, Y146, Y66, cq126, cq146, cq66, m126, m146, m66, q126, q146, q66, γ186⟩ => SlO 40 Y126 q126 m126 cq126 lp ∧ SlO 40 Y146 q146 m146 cq146 (runV lp x14).1 ∧ SlO 40 Y66 q66 m66 cq66 (runV lp x14).1 ∧ m126 ≤ 33) 3 #[true, true, true, true, true, true, true, false, true, false, false] (fun ⟨Y126, Y146, Y66, cq126, cq146, cq66, m126, m146, m66, q126, q146, q66, γ186⟩ => [(5, .pointer (some ⟨γ6 0, 0, none⟩)), (8, .pointer (some ⟨γ23 0, 0, none⟩)), (10, .pointer (some ⟨γ186 0, 0, none⟩)), (17, .slice (some ⟨b12, o12, none⟩) m cap2), (18, .int .i64 ((m : Nat))), (19, .int .i64 ((j : Nat))), (30, .agg #[.slice q66 m66 cq66, .int .i64 ((runV lp x14).2.1), .bool ((runV lp x14).2.2.1), .int .i64 ((runV lp x14).2.2.2)]), (34, .agg #[.slice q146 m146 cq146, .int .i64 ((runV lp x14).2.1), .bool ((runV lp x14).2.2.1), .int .i64 ((runV lp x14).2.2.2)])]) (fun ⟨Y126, Y146, Y66, cq126, cq146, cq66, m126, m146, m66, q126, q146, q66, γ186⟩ => bx (γ186 0) (#[.slice none 0 0, .int .i64 0, .bool false, .int .i64 0]) 53 :: bx (γ23 0) (#[.slice q22 m22 cq22]) 24 :: bx (γ15 0) (#[.int .i64 x14.kind, .int .i64 x14.a, .int .i64 x14.b, .int .i64 x14.vcpu, .bool x14.on]) 51 :: bx (γ6 0) (#[.slice qp mp cp]) 24 :: bx (γ1 0) (#[.slice p n cap]) 24 :: (Y126 ++ (Y146 ++ (Y66 ++ (Y22 ++ (Yp ++ [])))))) ?_ (fun hmx89 => ?_)
    ·
     rintro ⟨Y126, Y146, Y66, cq126, cq146, cq66, m126, m146, m66, q126, q146, q66, γ186⟩ ⟨hO126, hO146, hO66, hm126⟩
     refine a1 7 rfl ?_
     refine mo0 1 [] [5, 8, 10, 17, 18, 19, 30, 34] (fun γ166 => [(9, .pointer (some ⟨γ166 0, 0, none⟩))]) (fun γ166 L => bx (γ166 0) (#[.slice none 0 0, .int .i64 0, .bool false, .int .i64 0]) 53 :: L) (fun γ166 => ?_)
     refine od_ ?_
     exact wk (hmx91 (Y126, Y146, Y66, cq126, cq146, cq66, m126, m146, m66, q126, q146, q66, γ166, γ186) ⟨hO126, hO146, hO66, hm126⟩) [5, 8, 9, 10, 17, 18, 19, 30, 34] [[_], [_], [_], [_], [_], [_], _, _, _, _, _] [1, 0, 2, 3, 4, 5, 6, 7, 8, 9, 10] rfl rfl
    refine any_cutX (V := (List Ob) × (List Ob) × (List Ob) × (Nat) × (Nat) × (Nat) × (Nat) × (Nat) × (Nat) × (Option Addr) × (Option Addr) × (Option Addr) × (Nat → Nat)) (fun ⟨Y126, Y146, Y66, cq126, cq146, cq66, m126, m146, m66, q126, q146, q66, γ166⟩ => SlO 40 Y126 q126 m126 cq126 lp ∧ SlO 40 Y146 q146 m146 cq146 (runV lp x14).1 ∧ SlO 40 Y66 q66 m66 cq66 (runV lp x14).1 ∧ m126 ≤ 33) 3 #[true, true, true, true, true, true, true, true, false, false, false] (fun ⟨Y126, Y146, Y66, cq126, cq146, cq66, m126, m146, m66, q126, q146, q66, γ166⟩ => [(5, .pointer (some ⟨γ6 0, 0, none⟩)), (8, .pointer (some ⟨γ23 0, 0, none⟩)), (9, .pointer (some ⟨γ166 0, 0, none⟩)), (17, .slice (some ⟨b12, o12, none⟩) m cap2), (18, .int .i64 ((m : Nat))), (19, .int .i64 ((j : Nat))), (30, .agg #[.slice q66 m66 cq66, .int .i64 ((runV lp x14).2.1), .bool ((runV lp x14).2.2.1), .int .i64 ((runV lp x14).2.2.2)]), (34, .agg #[.slice q146 m146 cq146, .int .i64 ((runV lp x14).2.1), .bool ((runV lp x14).2.2.1), .int .i64 ((runV lp x14).2.2.2)])]) (fun ⟨Y126, Y146, Y66, cq126, cq146, cq66, m126, m146, m66, q126, q146, q66, γ166⟩ => bx (γ166 0) (#[.slice none 0 0, .int .i64 0, .bool false, .int .i64 0]) 53 :: bx (γ23 0) (#[.slice q22 m22 cq22]) 24 :: bx (γ15 0) (#[.int .i64 x14.kind, .int .i64 x14.a, .int .i64 x14.b, .int .i64 x14.vcpu, .bool x14.on]) 51 :: bx (γ6 0) (#[.slice qp mp cp]) 24 :: bx (γ1 0) (#[.slice p n cap]) 24 :: (Y126 ++ (Y146 ++ (Y66 ++ (Y22 ++ (Yp ++ [])))))) ?_ (fun hmx88 => ?_)
    ·
     rintro ⟨Y126, Y146, Y66, cq126, cq146, cq66, m126, m146, m66, q126, q146, q66, γ166⟩ ⟨hO126, hO146, hO66, hm126⟩
     refine a1 8 rfl ?_
     refine mo0 1 [] [5, 8, 9, 17, 18, 19, 30, 34] (fun γ186 => [(10, .pointer (some ⟨γ186 0, 0, none⟩))]) (fun γ186 L => bx (γ186 0) (#[.slice none 0 0, .int .i64 0, .bool false, .int .i64 0]) 53 :: L) (fun γ186 => ?_)
     refine od_ ?_
     exact wk (hmx91 (Y126, Y146, Y66, cq126, cq146, cq66, m126, m146, m66, q126, q146, q66, γ166, γ186) ⟨hO126, hO146, hO66, hm126⟩) [5, 8, 9, 10, 17, 18, 19, 30, 34] [[_], [_], [_], [_], [_], [_], _, _, _, _, _] [0, 1, 2, 3, 4, 5, 6, 7, 8, 9, 10] rfl rfl
    refine any_cutX (V := (List Ob) × (List Ob) × (Nat) × (Nat) × (Nat) × (Nat) × (Option Addr) × (Option Addr) × (Nat → Nat) × (Nat → Nat)) (fun ⟨Y126, Y66, cq126, cq66, m126, m66, q126, q66, γ166, γ186⟩ => SlO 40 Y126 q126 m126 cq126 lp ∧ SlO 40 Y66 q66 m66 cq66 (runV lp x14).1 ∧ m126 ≤ 33) 4 #[true, true, true, false, true, true, false, true, true, false, false] (fun ⟨Y126, Y66, cq126, cq66, m126, m66, q126, q66, γ166, γ186⟩ => [(5, .pointer (some ⟨γ6 0, 0, none⟩)), (7, .pointer (some ⟨γ15 0, 0, none⟩)), (8, .pointer (some ⟨γ23 0, 0, none⟩)), (9, .pointer (some ⟨γ166 0, 0, none⟩)), (10, .pointer (some ⟨γ186 0, 0, none⟩)), (17, .slice (some ⟨b12, o12, none⟩) m cap2), (18, .int .i64 ((m : Nat))), (19, .int .i64 ((j : Nat))), (30, .agg #[.slice q66 m66 cq66, .int .i64 ((runV lp x14).2.1), .bool ((runV lp x14).2.2.1), .int .i64 ((runV lp x14).2.2.2)]), (33, .agg #[.slice q126 m126 cq126])]) (fun ⟨Y126, Y66, cq126, cq66, m126, m66, q126, q66, γ166, γ186⟩ => bx (γ186 0) (#[.slice none 0 0, .int .i64 0, .bool false, .int .i64 0]) 53 :: bx (γ166 0) (#[.slice none 0 0, .int .i64 0, .bool false, .int .i64 0]) 53 :: bx (γ23 0) (#[.slice q22 m22 cq22]) 24 :: bx (γ15 0) (#[.int .i64 x14.kind, .int .i64 x14.a, .int .i64 x14.b, .int .i64 x14.vcpu, .bool x14.on]) 51 :: bx (γ6 0) (#[.slice qp mp cp]) 24 :: bx (γ1 0) (#[.slice p n cap]) 24 :: (Y126 ++ (Y66 ++ (Y22 ++ (Yp ++ []))))) ?_ (fun hmx87 => ?_)
    ·
     rintro ⟨Y126, Y66, cq126, cq66, m126, m66, q126, q66, γ166, γ186⟩ ⟨hO126, hO66, hm126⟩
     refine a1 3 rfl ?_
     refine qo0 1 [(3, .go (owns 3 0 5))] [5, 8, 9, 10, 17, 18, 19, 30, 33] [(31, .agg #[.int .i64 x14.kind, .int .i64 x14.a, .int .i64 x14.b, .int .i64 x14.vcpu, .bool x14.on])] ?_
     refine od_ ?_
     exact wk (hmx90 (Y126, Y66, cq126, cq66, m126, m66, q126, q66, γ166, γ186) ⟨hO126, hO66, hm126⟩) [5, 8, 9, 10, 17, 18, 19, 30, 31, 33] [[_], [_], [_], [_], [_], [_], _, _, _, _] [0, 1, 2, 3, 4, 5, 6, 7, 8, 9] rfl rfl
    refine any_cutX (V := (List Ob) × (Nat) × (Nat) × (Option Addr) × (Nat → Nat) × (Nat → Nat)) (fun ⟨Y66, cq66, m66, q66, γ166, γ186⟩ => SlO 40 Y66 q66 m66 cq66 (runV lp x14).1) 4 #[true, true, true, true, true, false, false, true, true, false, false] (fun ⟨Y66, cq66, m66, q66, γ166, γ186⟩ => [(5, .pointer (some ⟨γ6 0, 0, none⟩)), (8, .pointer (some ⟨γ23 0, 0, none⟩)), (9, .pointer (some ⟨γ166 0, 0, none⟩)), (10, .pointer (some ⟨γ186 0, 0, none⟩)), (17, .slice (some ⟨b12, o12, none⟩) m cap2), (18, .int .i64 ((m : Nat))), (19, .int .i64 ((j : Nat))), (30, .agg #[.slice q66 m66 cq66, .int .i64 ((runV lp x14).2.1), .bool ((runV lp x14).2.2.1), .int .i64 ((runV lp x14).2.2.2)]), (31, .agg #[.int .i64 x14.kind, .int .i64 x14.a, .int .i64 x14.b, .int .i64 x14.vcpu, .bool x14.on]), (32, .agg #[.slice q22 m22 cq22])]) (fun ⟨Y66, cq66, m66, q66, γ166, γ186⟩ => bx (γ186 0) (#[.slice none 0 0, .int .i64 0, .bool false, .int .i64 0]) 53 :: bx (γ166 0) (#[.slice none 0 0, .int .i64 0, .bool false, .int .i64 0]) 53 :: bx (γ23 0) (#[.slice q22 m22 cq22]) 24 :: bx (γ15 0) (#[.int .i64 x14.kind, .int .i64 x14.a, .int .i64 x14.b, .int .i64 x14.vcpu, .bool x14.on]) 51 :: bx (γ6 0) (#[.slice qp mp cp]) 24 :: bx (γ1 0) (#[.slice p n cap]) 24 :: (Y66 ++ (Y22 ++ (Yp ++ [])))) ?_ (fun hmx86 => ?_)
    ·
     rintro ⟨Y66, cq66, m66, q66, γ166, γ186⟩ hO66
     refine a1 5 rfl ?_
     refine cN 6 (fun v Y_ => ∃ q_ m_ c_, v = .agg #[.slice q_ m_ c_] ∧ SlO 40 Y_ q_ m_ c_ lp ∧ m_ ≤ 33) Try.call11 (fun w hw => by have := short_d q22 m22 cq22 lp w (hO22.atN (A := (_ :: _ :: _ :: _ :: _ :: _ :: Y66)) hw) hO22.len (by have := hO22.le; omega) (by have := hO22.maxc; omega); rw [show lp.take 33 = lp from List.take_of_length_le (by have := hO22.len; omega)] at this; exact this.mono fun e w' ⟨q_, m_, c_, Y_, he, hO, hm, hb, hY⟩ => ⟨_, _, he, ⟨q_, m_, c_, rfl, hO, hm⟩, hb, hY⟩) ?_
     rintro v126 Y126 ⟨q126, m126, cq126, rfl, hO126, hm126⟩
     refine od_ ?_
     exact wk (hmx90 (Y126, Y66, cq126, cq66, m126, m66, q126, q66, γ166, γ186) ⟨hO126, hO66, hm126⟩) [5, 8, 9, 10, 17, 18, 19, 30, 31, 33] [[_], [_], [_], [_], [_], [_], _, _, _, _] [0, 1, 2, 3, 4, 5, 6, 7, 8, 9] rfl rfl
    refine any_cutX (V := (List Ob) × (List Ob) × (Nat) × (Nat) × (Nat) × (Nat) × (Option Addr) × (Option Addr) × (Nat → Nat)) (fun ⟨Y126, Y66, cq126, cq66, m126, m66, q126, q66, γ186⟩ => SlO 40 Y126 q126 m126 cq126 lp ∧ SlO 40 Y66 q66 m66 cq66 (runV lp x14).1 ∧ m126 ≤ 33) 4 #[true, true, true, true, true, true, false, false, true, false, false] (fun ⟨Y126, Y66, cq126, cq66, m126, m66, q126, q66, γ186⟩ => [(5, .pointer (some ⟨γ6 0, 0, none⟩)), (8, .pointer (some ⟨γ23 0, 0, none⟩)), (10, .pointer (some ⟨γ186 0, 0, none⟩)), (17, .slice (some ⟨b12, o12, none⟩) m cap2), (18, .int .i64 ((m : Nat))), (19, .int .i64 ((j : Nat))), (30, .agg #[.slice q66 m66 cq66, .int .i64 ((runV lp x14).2.1), .bool ((runV lp x14).2.2.1), .int .i64 ((runV lp x14).2.2.2)]), (31, .agg #[.int .i64 x14.kind, .int .i64 x14.a, .int .i64 x14.b, .int .i64 x14.vcpu, .bool x14.on]), (33, .agg #[.slice q126 m126 cq126])]) (fun ⟨Y126, Y66, cq126, cq66, m126, m66, q126, q66, γ186⟩ => bx (γ186 0) (#[.slice none 0 0, .int .i64 0, .bool false, .int .i64 0]) 53 :: bx (γ23 0) (#[.slice q22 m22 cq22]) 24 :: bx (γ15 0) (#[.int .i64 x14.kind, .int .i64 x14.a, .int .i64 x14.b, .int .i64 x14.vcpu, .bool x14.on]) 51 :: bx (γ6 0) (#[.slice qp mp cp]) 24 :: bx (γ1 0) (#[.slice p n cap]) 24 :: (Y126 ++ (Y66 ++ (Y22 ++ (Yp ++ []))))) ?_ (fun hmx85 => ?_)
    ·
     rintro ⟨Y126, Y66, cq126, cq66, m126, m66, q126, q66, γ186⟩ ⟨hO126, hO66, hm126⟩
     refine any_fork [6, 7] (by kernel_rfl) (by simp) (each_cons _ rfl ?_ (each_cons _ rfl ?_ (each_nil)))
     ·
      refine cN 5 (fun v Y_ => ∃ q_ m_ c_, v = .agg #[.slice q_ m_ c_, .int .i64 ((runV lp x14).2.1), .bool ((runV lp x14).2.2.1), .int .i64 ((runV lp x14).2.2.2)] ∧ SlO 40 Y_ q_ m_ c_ (runV lp x14).1) Try.call25 (fun w hw => (wants_d x14 q126 m126 cq126 lp w (hO126.atN (A := [_, _, _, _, _]) hw) hO126.len (by omega)).mono fun e w' ⟨q_, m_, c_, Y_, he, hO, hb, hY⟩ => ⟨_, _, he, ⟨q_, m_, c_, rfl, hO⟩, hb, hY⟩) ?_
      rintro v146 Y146 ⟨q146, m146, cq146, rfl, hO146⟩
      refine od_ ?_
      exact wk (hmx89 (Y126, Y146, Y66, cq126, cq146, cq66, m126, m146, m66, q126, q146, q66, γ186) ⟨hO126, hO146, hO66, hm126⟩) [5, 8, 10, 17, 18, 19, 30, 34] [[_], [_], [_], [_], [_], _, _, _, _, _] [0, 1, 2, 3, 4, 6, 5, 7, 8, 9] rfl rfl
     ·
      refine mo0 1 [] [5, 8, 10, 17, 18, 19, 30, 31, 33] (fun γ166 => [(9, .pointer (some ⟨γ166 0, 0, none⟩))]) (fun γ166 L => bx (γ166 0) (#[.slice none 0 0, .int .i64 0, .bool false, .int .i64 0]) 53 :: L) (fun γ166 => ?_)
      refine od_ ?_
      exact wk (hmx90 (Y126, Y66, cq126, cq66, m126, m66, q126, q66, γ166, γ186) ⟨hO126, hO66, hm126⟩) [5, 8, 9, 10, 17, 18, 19, 30, 31, 33] [[_], [_], [_], [_], [_], [_], _, _, _, _] [1, 0, 2, 3, 4, 5, 6, 7, 8, 9] rfl rfl
    refine any_cutX (V := (List Ob) × (List Ob) × (Nat) × (Nat) × (Nat) × (Nat) × (Option Addr) × (Option Addr) × (Nat → Nat)) (fun ⟨Y126, Y66, cq126, cq66, m126, m66, q126, q66, γ166⟩ => SlO 40 Y126 q126 m126 cq126 lp ∧ SlO 40 Y66 q66 m66 cq66 (runV lp x14).1 ∧ m126 ≤ 33) 4 #[true, true, true, true, true, true, false, true, false, false, false] (fun ⟨Y126, Y66, cq126, cq66, m126, m66, q126, q66, γ166⟩ => [(5, .pointer (some ⟨γ6 0, 0, none⟩)), (8, .pointer (some ⟨γ23 0, 0, none⟩)), (9, .pointer (some ⟨γ166 0, 0, none⟩)), (17, .slice (some ⟨b12, o12, none⟩) m cap2), (18, .int .i64 ((m : Nat))), (19, .int .i64 ((j : Nat))), (30, .agg #[.slice q66 m66 cq66, .int .i64 ((runV lp x14).2.1), .bool ((runV lp x14).2.2.1), .int .i64 ((runV lp x14).2.2.2)]), (31, .agg #[.int .i64 x14.kind, .int .i64 x14.a, .int .i64 x14.b, .int .i64 x14.vcpu, .bool x14.on]), (33, .agg #[.slice q126 m126 cq126])]) (fun ⟨Y126, Y66, cq126, cq66, m126, m66, q126, q66, γ166⟩ => bx (γ166 0) (#[.slice none 0 0, .int .i64 0, .bool false, .int .i64 0]) 53 :: bx (γ23 0) (#[.slice q22 m22 cq22]) 24 :: bx (γ15 0) (#[.int .i64 x14.kind, .int .i64 x14.a, .int .i64 x14.b, .int .i64 x14.vcpu, .bool x14.on]) 51 :: bx (γ6 0) (#[.slice qp mp cp]) 24 :: bx (γ1 0) (#[.slice p n cap]) 24 :: (Y126 ++ (Y66 ++ (Y22 ++ (Yp ++ []))))) ?_ (fun hmx84 => ?_)
    ·
     rintro ⟨Y126, Y66, cq126, cq66, m126, m66, q126, q66, γ166⟩ ⟨hO126, hO66, hm126⟩
     refine any_fork [6, 8] (by kernel_rfl) (by simp) (each_cons _ rfl ?_ (each_cons _ rfl ?_ (each_nil)))
     ·
      refine cN 5 (fun v Y_ => ∃ q_ m_ c_, v = .agg #[.slice q_ m_ c_, .int .i64 ((runV lp x14).2.1), .bool ((runV lp x14).2.2.1), .int .i64 ((runV lp x14).2.2.2)] ∧ SlO 40 Y_ q_ m_ c_ (runV lp x14).1) Try.call25 (fun w hw => (wants_d x14 q126 m126 cq126 lp w (hO126.atN (A := [_, _, _, _, _]) hw) hO126.len (by omega)).mono fun e w' ⟨q_, m_, c_, Y_, he, hO, hb, hY⟩ => ⟨_, _, he, ⟨q_, m_, c_, rfl, hO⟩, hb, hY⟩) ?_
      rintro v146 Y146 ⟨q146, m146, cq146, rfl, hO146⟩
      refine od_ ?_
      exact wk (hmx88 (Y126, Y146, Y66, cq126, cq146, cq66, m126, m146, m66, q126, q146, q66, γ166) ⟨hO126, hO146, hO66, hm126⟩) [5, 8, 9, 17, 18, 19, 30, 34] [[_], [_], [_], [_], [_], _, _, _, _, _] [0, 1, 2, 3, 4, 6, 5, 7, 8, 9] rfl rfl
     ·
      refine mo0 1 [] [5, 8, 9, 17, 18, 19, 30, 31, 33] (fun γ186 => [(10, .pointer (some ⟨γ186 0, 0, none⟩))]) (fun γ186 L => bx (γ186 0) (#[.slice none 0 0, .int .i64 0, .bool false, .int .i64 0]) 53 :: L) (fun γ186 => ?_)
      refine od_ ?_
      exact wk (hmx90 (Y126, Y66, cq126, cq66, m126, m66, q126, q66, γ166, γ186) ⟨hO126, hO66, hm126⟩) [5, 8, 9, 10, 17, 18, 19, 30, 31, 33] [[_], [_], [_], [_], [_], [_], _, _, _, _] [0, 1, 2, 3, 4, 5, 6, 7, 8, 9] rfl rfl
    refine any_cutX (V := (List Ob) × (List Ob) × (List Ob) × (Nat) × (Nat) × (Nat) × (Nat) × (Nat) × (Nat) × (Option Addr) × (Option Addr) × (Option Addr)) (fun ⟨Y126, Y146, Y66, cq126, cq146, cq66, m126, m146, m66, q126, q146, q66⟩ => SlO 40 Y126 q126 m126 cq126 lp ∧ SlO 40 Y146 q146 m146 cq146 (runV lp x14).1 ∧ SlO 40 Y66 q66 m66 cq66 (runV lp x14).1 ∧ m126 ≤ 33) 4 #[true, true, true, true, true, true, true, false, false, false, false] (fun ⟨Y126, Y146, Y66, cq126, cq146, cq66, m126, m146, m66, q126, q146, q66⟩ => [(5, .pointer (some ⟨γ6 0, 0, none⟩)), (8, .pointer (some ⟨γ23 0, 0, none⟩)), (17, .slice (some ⟨b12, o12, none⟩) m cap2), (18, .int .i64 ((m : Nat))), (19, .int .i64 ((j : Nat))), (30, .agg #[.slice q66 m66 cq66, .int .i64 ((runV lp x14).2.1), .bool ((runV lp x14).2.2.1), .int .i64 ((runV lp x14).2.2.2)]), (34, .agg #[.slice q146 m146 cq146, .int .i64 ((runV lp x14).2.1), .bool ((runV lp x14).2.2.1), .int .i64 ((runV lp x14).2.2.2)])]) (fun ⟨Y126, Y146, Y66, cq126, cq146, cq66, m126, m146, m66, q126, q146, q66⟩ => bx (γ23 0) (#[.slice q22 m22 cq22]) 24 :: bx (γ15 0) (#[.int .i64 x14.kind, .int .i64 x14.a, .int .i64 x14.b, .int .i64 x14.vcpu, .bool x14.on]) 51 :: bx (γ6 0) (#[.slice qp mp cp]) 24 :: bx (γ1 0) (#[.slice p n cap]) 24 :: (Y126 ++ (Y146 ++ (Y66 ++ (Y22 ++ (Yp ++ [])))))) ?_ (fun hmx83 => ?_)
    ·
     rintro ⟨Y126, Y146, Y66, cq126, cq146, cq66, m126, m146, m66, q126, q146, q66⟩ ⟨hO126, hO146, hO66, hm126⟩
     refine any_fork [7, 8] (by kernel_rfl) (by simp) (each_cons _ rfl ?_ (each_cons _ rfl ?_ (each_nil)))
     ·
      refine mo0 1 [] [5, 8, 17, 18, 19, 30, 34] (fun γ166 => [(9, .pointer (some ⟨γ166 0, 0, none⟩))]) (fun γ166 L => bx (γ166 0) (#[.slice none 0 0, .int .i64 0, .bool false, .int .i64 0]) 53 :: L) (fun γ166 => ?_)
      refine od_ ?_
      exact wk (hmx88 (Y126, Y146, Y66, cq126, cq146, cq66, m126, m146, m66, q126, q146, q66, γ166) ⟨hO126, hO146, hO66, hm126⟩) [5, 8, 9, 17, 18, 19, 30, 34] [[_], [_], [_], [_], [_], _, _, _, _, _] [0, 1, 2, 3, 4, 5, 6, 7, 8, 9] rfl rfl
     ·
      refine mo0 1 [] [5, 8, 17, 18, 19, 30, 34] (fun γ186 => [(10, .pointer (some ⟨γ186 0, 0, none⟩))]) (fun γ186 L => bx (γ186 0) (#[.slice none 0 0, .int .i64 0, .bool false, .int .i64 0]) 53 :: L) (fun γ186 => ?_)
      refine od_ ?_
      exact wk (hmx89 (Y126, Y146, Y66, cq126, cq146, cq66, m126, m146, m66, q126, q146, q66, γ186) ⟨hO126, hO146, hO66, hm126⟩) [5, 8, 10, 17, 18, 19, 30, 34] [[_], [_], [_], [_], [_], _, _, _, _, _] [0, 1, 2, 3, 4, 5, 6, 7, 8, 9] rfl rfl
    refine any_cutX (V := (Nat → Nat) × (Nat → Nat)) (fun ⟨γ166, γ186⟩ => True) 5 #[true, true, false, true, true, false, false, true, true, false, false] (fun ⟨γ166, γ186⟩ => [(5, .pointer (some ⟨γ6 0, 0, none⟩)), (8, .pointer (some ⟨γ23 0, 0, none⟩)), (9, .pointer (some ⟨γ166 0, 0, none⟩)), (10, .pointer (some ⟨γ186 0, 0, none⟩)), (17, .slice (some ⟨b12, o12, none⟩) m cap2), (18, .int .i64 ((m : Nat))), (19, .int .i64 ((j : Nat))), (28, .agg #[.int .i64 x14.kind, .int .i64 x14.a, .int .i64 x14.b, .int .i64 x14.vcpu, .bool x14.on]), (29, .agg #[.slice qp mp cp]), (31, .agg #[.int .i64 x14.kind, .int .i64 x14.a, .int .i64 x14.b, .int .i64 x14.vcpu, .bool x14.on]), (32, .agg #[.slice q22 m22 cq22])]) (fun ⟨γ166, γ186⟩ => bx (γ186 0) (#[.slice none 0 0, .int .i64 0, .bool false, .int .i64 0]) 53 :: bx (γ166 0) (#[.slice none 0 0, .int .i64 0, .bool false, .int .i64 0]) 53 :: bx (γ23 0) (#[.slice q22 m22 cq22]) 24 :: bx (γ15 0) (#[.int .i64 x14.kind, .int .i64 x14.a, .int .i64 x14.b, .int .i64 x14.vcpu, .bool x14.on]) 51 :: bx (γ6 0) (#[.slice qp mp cp]) 24 :: bx (γ1 0) (#[.slice p n cap]) 24 :: (Y22 ++ (Yp ++ []))) ?_ (fun hmx82 => ?_)
    ·
     rintro ⟨γ166, γ186⟩ _
     refine a1 2 rfl ?_
     refine cN 6 (fun v Y_ => ∃ q_ m_ c_, v = .agg #[.slice q_ m_ c_, .int .i64 ((runV lp x14).2.1), .bool ((runV lp x14).2.2.1), .int .i64 ((runV lp x14).2.2.2)] ∧ SlO 40 Y_ q_ m_ c_ (runV lp x14).1) Try.call24 (fun w hw => (run_d x14 qp mp cp lp w (hP.atN (A := (_ :: _ :: _ :: _ :: _ :: _ :: Y22)) hw) hP.len (by omega)).mono fun e w' ⟨q_, m_, c_, Y_, he, hO, hb, hY⟩ => ⟨_, _, he, ⟨q_, m_, c_, rfl, hO⟩, hb, hY⟩) ?_
     rintro v66 Y66 ⟨q66, m66, cq66, rfl, hO66⟩
     refine od_ ?_
     exact wk (hmx86 (Y66, cq66, m66, q66, γ166, γ186) hO66) [5, 8, 9, 10, 17, 18, 19, 30, 31, 32] [[_], [_], [_], [_], [_], [_], _, _, _] [0, 1, 2, 3, 4, 5, 6, 7, 8] rfl rfl
    refine any_cutX (V := (List Ob) × (Nat) × (Nat) × (Option Addr) × (Nat → Nat) × (Nat → Nat)) (fun ⟨Y66, cq66, m66, q66, γ166, γ186⟩ => SlO 40 Y66 q66 m66 cq66 (runV lp x14).1) 5 #[true, true, true, false, true, false, false, true, true, false, false] (fun ⟨Y66, cq66, m66, q66, γ166, γ186⟩ => [(5, .pointer (some ⟨γ6 0, 0, none⟩)), (7, .pointer (some ⟨γ15 0, 0, none⟩)), (8, .pointer (some ⟨γ23 0, 0, none⟩)), (9, .pointer (some ⟨γ166 0, 0, none⟩)), (10, .pointer (some ⟨γ186 0, 0, none⟩)), (17, .slice (some ⟨b12, o12, none⟩) m cap2), (18, .int .i64 ((m : Nat))), (19, .int .i64 ((j : Nat))), (30, .agg #[.slice q66 m66 cq66, .int .i64 ((runV lp x14).2.1), .bool ((runV lp x14).2.2.1), .int .i64 ((runV lp x14).2.2.2)]), (32, .agg #[.slice q22 m22 cq22])]) (fun ⟨Y66, cq66, m66, q66, γ166, γ186⟩ => bx (γ186 0) (#[.slice none 0 0, .int .i64 0, .bool false, .int .i64 0]) 53 :: bx (γ166 0) (#[.slice none 0 0, .int .i64 0, .bool false, .int .i64 0]) 53 :: bx (γ23 0) (#[.slice q22 m22 cq22]) 24 :: bx (γ15 0) (#[.int .i64 x14.kind, .int .i64 x14.a, .int .i64 x14.b, .int .i64 x14.vcpu, .bool x14.on]) 51 :: bx (γ6 0) (#[.slice qp mp cp]) 24 :: bx (γ1 0) (#[.slice p n cap]) 24 :: (Y66 ++ (Y22 ++ (Yp ++ [])))) ?_ (fun hmx81 => ?_)
    ·
     rintro ⟨Y66, cq66, m66, q66, γ166, γ186⟩ hO66
     refine any_fork [3, 5] (by kernel_rfl) (by simp) (each_cons _ rfl ?_ (each_cons _ rfl ?_ (each_nil)))
     ·
      refine qo0 1 [(3, .go (owns 3 0 5))] [5, 8, 9, 10, 17, 18, 19, 30, 32] [(31, .agg #[.int .i64 x14.kind, .int .i64 x14.a, .int .i64 x14.b, .int .i64 x14.vcpu, .bool x14.on])] ?_
      refine od_ ?_
      exact wk (hmx86 (Y66, cq66, m66, q66, γ166, γ186) hO66) [5, 8, 9, 10, 17, 18, 19, 30, 31, 32] [[_], [_], [_], [_], [_], [_], _, _, _] [0, 1, 2, 3, 4, 5, 6, 7, 8] rfl rfl
     ·
      refine cN 6 (fun v Y_ => ∃ q_ m_ c_, v = .agg #[.slice q_ m_ c_] ∧ SlO 40 Y_ q_ m_ c_ lp ∧ m_ ≤ 33) Try.call11 (fun w hw => by have := short_d q22 m22 cq22 lp w (hO22.atN (A := (_ :: _ :: _ :: _ :: _ :: _ :: Y66)) hw) hO22.len (by have := hO22.le; omega) (by have := hO22.maxc; omega); rw [show lp.take 33 = lp from List.take_of_length_le (by have := hO22.len; omega)] at this; exact this.mono fun e w' ⟨q_, m_, c_, Y_, he, hO, hm, hb, hY⟩ => ⟨_, _, he, ⟨q_, m_, c_, rfl, hO, hm⟩, hb, hY⟩) ?_
      rintro v126 Y126 ⟨q126, m126, cq126, rfl, hO126, hm126⟩
      refine od_ ?_
      exact wk (hmx87 (Y126, Y66, cq126, cq66, m126, m66, q126, q66, γ166, γ186) ⟨hO126, hO66, hm126⟩) [5, 7, 8, 9, 10, 17, 18, 19, 30, 33] [[_], [_], [_], [_], [_], [_], _, _, _, _] [0, 1, 2, 3, 4, 5, 6, 7, 8, 9] rfl rfl
    refine any_cutX (V := (List Ob) × (List Ob) × (Nat) × (Nat) × (Nat) × (Nat) × (Option Addr) × (Option Addr) × (Nat → Nat)) (fun ⟨Y126, Y66, cq126, cq66, m126, m66, q126, q66, γ186⟩ => SlO 40 Y126 q126 m126 cq126 lp ∧ SlO 40 Y66 q66 m66 cq66 (runV lp x14).1 ∧ m126 ≤ 33) 5 #[true, true, true, false, true, true, false, false, true, false, false] (fun ⟨Y126, Y66, cq126, cq66, m126, m66, q126, q66, γ186⟩ => [(5, .pointer (some ⟨γ6 0, 0, none⟩)), (7, .pointer (some ⟨γ15 0, 0, none⟩)), (8, .pointer (some ⟨γ23 0, 0, none⟩)), (10, .pointer (some ⟨γ186 0, 0, none⟩)), (17, .slice (some ⟨b12, o12, none⟩) m cap2), (18, .int .i64 ((m : Nat))), (19, .int .i64 ((j : Nat))), (30, .agg #[.slice q66 m66 cq66, .int .i64 ((runV lp x14).2.1), .bool ((runV lp x14).2.2.1), .int .i64 ((runV lp x14).2.2.2)]), (33, .agg #[.slice q126 m126 cq126])]) (fun ⟨Y126, Y66, cq126, cq66, m126, m66, q126, q66, γ186⟩ => bx (γ186 0) (#[.slice none 0 0, .int .i64 0, .bool false, .int .i64 0]) 53 :: bx (γ23 0) (#[.slice q22 m22 cq22]) 24 :: bx (γ15 0) (#[.int .i64 x14.kind, .int .i64 x14.a, .int .i64 x14.b, .int .i64 x14.vcpu, .bool x14.on]) 51 :: bx (γ6 0) (#[.slice qp mp cp]) 24 :: bx (γ1 0) (#[.slice p n cap]) 24 :: (Y126 ++ (Y66 ++ (Y22 ++ (Yp ++ []))))) ?_ (fun hmx80 => ?_)
    ·
     rintro ⟨Y126, Y66, cq126, cq66, m126, m66, q126, q66, γ186⟩ ⟨hO126, hO66, hm126⟩
     refine any_fork [3, 7] (by kernel_rfl) (by simp) (each_cons _ rfl ?_ (each_cons _ rfl ?_ (each_nil)))
     ·
      refine qo0 1 [(3, .go (owns 2 0 5))] [5, 8, 10, 17, 18, 19, 30, 33] [(31, .agg #[.int .i64 x14.kind, .int .i64 x14.a, .int .i64 x14.b, .int .i64 x14.vcpu, .bool x14.on])] ?_
      refine od_ ?_
      exact wk (hmx85 (Y126, Y66, cq126, cq66, m126, m66, q126, q66, γ186) ⟨hO126, hO66, hm126⟩) [5, 8, 10, 17, 18, 19, 30, 31, 33] [[_], [_], [_], [_], [_], _, _, _, _] [0, 1, 2, 3, 4, 5, 6, 7, 8] rfl rfl
     ·
      refine mo0 1 [] [5, 7, 8, 10, 17, 18, 19, 30, 33] (fun γ166 => [(9, .pointer (some ⟨γ166 0, 0, none⟩))]) (fun γ166 L => bx (γ166 0) (#[.slice none 0 0, .int .i64 0, .bool false, .int .i64 0]) 53 :: L) (fun γ166 => ?_)
      refine od_ ?_
      exact wk (hmx87 (Y126, Y66, cq126, cq66, m126, m66, q126, q66, γ166, γ186) ⟨hO126, hO66, hm126⟩) [5, 7, 8, 9, 10, 17, 18, 19, 30, 33] [[_], [_], [_], [_], [_], [_], _, _, _, _] [1, 0, 2, 3, 4, 5, 6, 7, 8, 9] rfl rfl
    refine any_cutX (V := (List Ob) × (List Ob) × (Nat) × (Nat) × (Nat) × (Nat) × (Option Addr) × (Option Addr) × (Nat → Nat)) (fun ⟨Y126, Y66, cq126, cq66, m126, m66, q126, q66, γ166⟩ => SlO 40 Y126 q126 m126 cq126 lp ∧ SlO 40 Y66 q66 m66 cq66 (runV lp x14).1 ∧ m126 ≤ 33) 5 #[true, true, true, false, true, true, false, true, false, false, false] (fun ⟨Y126, Y66, cq126, cq66, m126, m66, q126, q66, γ166⟩ => [(5, .pointer (some ⟨γ6 0, 0, none⟩)), (7, .pointer (some ⟨γ15 0, 0, none⟩)), (8, .pointer (some ⟨γ23 0, 0, none⟩)), (9, .pointer (some ⟨γ166 0, 0, none⟩)), (17, .slice (some ⟨b12, o12, none⟩) m cap2), (18, .int .i64 ((m : Nat))), (19, .int .i64 ((j : Nat))), (30, .agg #[.slice q66 m66 cq66, .int .i64 ((runV lp x14).2.1), .bool ((runV lp x14).2.2.1), .int .i64 ((runV lp x14).2.2.2)]), (33, .agg #[.slice q126 m126 cq126])]) (fun ⟨Y126, Y66, cq126, cq66, m126, m66, q126, q66, γ166⟩ => bx (γ166 0) (#[.slice none 0 0, .int .i64 0, .bool false, .int .i64 0]) 53 :: bx (γ23 0) (#[.slice q22 m22 cq22]) 24 :: bx (γ15 0) (#[.int .i64 x14.kind, .int .i64 x14.a, .int .i64 x14.b, .int .i64 x14.vcpu, .bool x14.on]) 51 :: bx (γ6 0) (#[.slice qp mp cp]) 24 :: bx (γ1 0) (#[.slice p n cap]) 24 :: (Y126 ++ (Y66 ++ (Y22 ++ (Yp ++ []))))) ?_ (fun hmx79 => ?_)
    ·
     rintro ⟨Y126, Y66, cq126, cq66, m126, m66, q126, q66, γ166⟩ ⟨hO126, hO66, hm126⟩
     refine any_fork [3, 8] (by kernel_rfl) (by simp) (each_cons _ rfl ?_ (each_cons _ rfl ?_ (each_nil)))
     ·
      refine qo0 1 [(3, .go (owns 2 0 5))] [5, 8, 9, 17, 18, 19, 30, 33] [(31, .agg #[.int .i64 x14.kind, .int .i64 x14.a, .int .i64 x14.b, .int .i64 x14.vcpu, .bool x14.on])] ?_
      refine od_ ?_
      exact wk (hmx84 (Y126, Y66, cq126, cq66, m126, m66, q126, q66, γ166) ⟨hO126, hO66, hm126⟩) [5, 8, 9, 17, 18, 19, 30, 31, 33] [[_], [_], [_], [_], [_], _, _, _, _] [0, 1, 2, 3, 4, 5, 6, 7, 8] rfl rfl
     ·
      refine mo0 1 [] [5, 7, 8, 9, 17, 18, 19, 30, 33] (fun γ186 => [(10, .pointer (some ⟨γ186 0, 0, none⟩))]) (fun γ186 L => bx (γ186 0) (#[.slice none 0 0, .int .i64 0, .bool false, .int .i64 0]) 53 :: L) (fun γ186 => ?_)
      refine od_ ?_
      exact wk (hmx87 (Y126, Y66, cq126, cq66, m126, m66, q126, q66, γ166, γ186) ⟨hO126, hO66, hm126⟩) [5, 7, 8, 9, 10, 17, 18, 19, 30, 33] [[_], [_], [_], [_], [_], [_], _, _, _, _] [0, 1, 2, 3, 4, 5, 6, 7, 8, 9] rfl rfl
    refine any_cutX (V := (List Ob) × (Nat) × (Nat) × (Option Addr) × (Nat → Nat) × (Nat → Nat)) (fun ⟨Y66, cq66, m66, q66, γ166, γ186⟩ => SlO 40 Y66 q66 m66 cq66 (runV lp x14).1) 5 #[true, true, true, true, false, false, false, true, true, false, false] (fun ⟨Y66, cq66, m66, q66, γ166, γ186⟩ => [(5, .pointer (some ⟨γ6 0, 0, none⟩)), (8, .pointer (some ⟨γ23 0, 0, none⟩)), (9, .pointer (some ⟨γ166 0, 0, none⟩)), (10, .pointer (some ⟨γ186 0, 0, none⟩)), (17, .slice (some ⟨b12, o12, none⟩) m cap2), (18, .int .i64 ((m : Nat))), (19, .int .i64 ((j : Nat))), (30, .agg #[.slice q66 m66 cq66, .int .i64 ((runV lp x14).2.1), .bool ((runV lp x14).2.2.1), .int .i64 ((runV lp x14).2.2.2)]), (31, .agg #[.int .i64 x14.kind, .int .i64 x14.a, .int .i64 x14.b, .int .i64 x14.vcpu, .bool x14.on])]) (fun ⟨Y66, cq66, m66, q66, γ166, γ186⟩ => bx (γ186 0) (#[.slice none 0 0, .int .i64 0, .bool false, .int .i64 0]) 53 :: bx (γ166 0) (#[.slice none 0 0, .int .i64 0, .bool false, .int .i64 0]) 53 :: bx (γ23 0) (#[.slice q22 m22 cq22]) 24 :: bx (γ15 0) (#[.int .i64 x14.kind, .int .i64 x14.a, .int .i64 x14.b, .int .i64 x14.vcpu, .bool x14.on]) 51 :: bx (γ6 0) (#[.slice qp mp cp]) 24 :: bx (γ1 0) (#[.slice p n cap]) 24 :: (Y66 ++ (Y22 ++ (Yp ++ [])))) ?_ (fun hmx78 => ?_)
    ·
     rintro ⟨Y66, cq66, m66, q66, γ166, γ186⟩ hO66
     refine a1 4 rfl ?_
     refine qo0 1 [(4, .go (owns 2 0 1))] [5, 8, 9, 10, 17, 18, 19, 30, 31] [(32, .agg #[.slice q22 m22 cq22])] ?_
     refine od_ ?_
     exact wk (hmx86 (Y66, cq66, m66, q66, γ166, γ186) hO66) [5, 8, 9, 10, 17, 18, 19, 30, 31, 32] [[_], [_], [_], [_], [_], [_], _, _, _] [0, 1, 2, 3, 4, 5, 6, 7, 8] rfl rfl
    refine any_cutX (V := (List Ob) × (Nat) × (Nat) × (Option Addr) × (Nat → Nat)) (fun ⟨Y66, cq66, m66, q66, γ186⟩ => SlO 40 Y66 q66 m66 cq66 (runV lp x14).1) 5 #[true, true, true, true, true, false, false, false, true, false, false] (fun ⟨Y66, cq66, m66, q66, γ186⟩ => [(5, .pointer (some ⟨γ6 0, 0, none⟩)), (8, .pointer (some ⟨γ23 0, 0, none⟩)), (10, .pointer (some ⟨γ186 0, 0, none⟩)), (17, .slice (some ⟨b12, o12, none⟩) m cap2), (18, .int .i64 ((m : Nat))), (19, .int .i64 ((j : Nat))), (30, .agg #[.slice q66 m66 cq66, .int .i64 ((runV lp x14).2.1), .bool ((runV lp x14).2.2.1), .int .i64 ((runV lp x14).2.2.2)]), (31, .agg #[.int .i64 x14.kind, .int .i64 x14.a, .int .i64 x14.b, .int .i64 x14.vcpu, .bool x14.on]), (32, .agg #[.slice q22 m22 cq22])]) (fun ⟨Y66, cq66, m66, q66, γ186⟩ => bx (γ186 0) (#[.slice none 0 0, .int .i64 0, .bool false, .int .i64 0]) 53 :: bx (γ23 0) (#[.slice q22 m22 cq22]) 24 :: bx (γ15 0) (#[.int .i64 x14.kind, .int .i64 x14.a, .int .i64 x14.b, .int .i64 x14.vcpu, .bool x14.on]) 51 :: bx (γ6 0) (#[.slice qp mp cp]) 24 :: bx (γ1 0) (#[.slice p n cap]) 24 :: (Y66 ++ (Y22 ++ (Yp ++ [])))) ?_ (fun hmx77 => ?_)
    ·
     rintro ⟨Y66, cq66, m66, q66, γ186⟩ hO66
     refine any_fork [5, 7] (by kernel_rfl) (by simp) (each_cons _ rfl ?_ (each_cons _ rfl ?_ (each_nil)))
     ·
      refine cN 5 (fun v Y_ => ∃ q_ m_ c_, v = .agg #[.slice q_ m_ c_] ∧ SlO 40 Y_ q_ m_ c_ lp ∧ m_ ≤ 33) Try.call11 (fun w hw => by have := short_d q22 m22 cq22 lp w (hO22.atN (A := (_ :: _ :: _ :: _ :: _ :: Y66)) hw) hO22.len (by have := hO22.le; omega) (by have := hO22.maxc; omega); rw [show lp.take 33 = lp from List.take_of_length_le (by have := hO22.len; omega)] at this; exact this.mono fun e w' ⟨q_, m_, c_, Y_, he, hO, hm, hb, hY⟩ => ⟨_, _, he, ⟨q_, m_, c_, rfl, hO, hm⟩, hb, hY⟩) ?_
      rintro v126 Y126 ⟨q126, m126, cq126, rfl, hO126, hm126⟩
      refine od_ ?_
      exact wk (hmx85 (Y126, Y66, cq126, cq66, m126, m66, q126, q66, γ186) ⟨hO126, hO66, hm126⟩) [5, 8, 10, 17, 18, 19, 30, 31, 33] [[_], [_], [_], [_], [_], _, _, _, _] [0, 1, 2, 3, 4, 5, 6, 7, 8] rfl rfl
     ·
      refine mo0 1 [] [5, 8, 10, 17, 18, 19, 30, 31, 32] (fun γ166 => [(9, .pointer (some ⟨γ166 0, 0, none⟩))]) (fun γ166 L => bx (γ166 0) (#[.slice none 0 0, .int .i64 0, .bool false, .int .i64 0]) 53 :: L) (fun γ166 => ?_)
      refine od_ ?_
      exact wk (hmx86 (Y66, cq66, m66, q66, γ166, γ186) hO66) [5, 8, 9, 10, 17, 18, 19, 30, 31, 32] [[_], [_], [_], [_], [_], [_], _, _, _] [1, 0, 2, 3, 4, 5, 6, 7, 8] rfl rfl
    refine any_cutX (V := (List Ob) × (Nat) × (Nat) × (Option Addr) × (Nat → Nat)) (fun ⟨Y66, cq66, m66, q66, γ166⟩ => SlO 40 Y66 q66 m66 cq66 (runV lp x14).1) 5 #[true, true, true, true, true, false, false, true, false, false, false] (fun ⟨Y66, cq66, m66, q66, γ166⟩ => [(5, .pointer (some ⟨γ6 0, 0, none⟩)), (8, .pointer (some ⟨γ23 0, 0, none⟩)), (9, .pointer (some ⟨γ166 0, 0, none⟩)), (17, .slice (some ⟨b12, o12, none⟩) m cap2), (18, .int .i64 ((m : Nat))), (19, .int .i64 ((j : Nat))), (30, .agg #[.slice q66 m66 cq66, .int .i64 ((runV lp x14).2.1), .bool ((runV lp x14).2.2.1), .int .i64 ((runV lp x14).2.2.2)]), (31, .agg #[.int .i64 x14.kind, .int .i64 x14.a, .int .i64 x14.b, .int .i64 x14.vcpu, .bool x14.on]), (32, .agg #[.slice q22 m22 cq22])]) (fun ⟨Y66, cq66, m66, q66, γ166⟩ => bx (γ166 0) (#[.slice none 0 0, .int .i64 0, .bool false, .int .i64 0]) 53 :: bx (γ23 0) (#[.slice q22 m22 cq22]) 24 :: bx (γ15 0) (#[.int .i64 x14.kind, .int .i64 x14.a, .int .i64 x14.b, .int .i64 x14.vcpu, .bool x14.on]) 51 :: bx (γ6 0) (#[.slice qp mp cp]) 24 :: bx (γ1 0) (#[.slice p n cap]) 24 :: (Y66 ++ (Y22 ++ (Yp ++ [])))) ?_ (fun hmx76 => ?_)
    ·
     rintro ⟨Y66, cq66, m66, q66, γ166⟩ hO66
     refine any_fork [5, 8] (by kernel_rfl) (by simp) (each_cons _ rfl ?_ (each_cons _ rfl ?_ (each_nil)))
     ·
      refine cN 5 (fun v Y_ => ∃ q_ m_ c_, v = .agg #[.slice q_ m_ c_] ∧ SlO 40 Y_ q_ m_ c_ lp ∧ m_ ≤ 33) Try.call11 (fun w hw => by have := short_d q22 m22 cq22 lp w (hO22.atN (A := (_ :: _ :: _ :: _ :: _ :: Y66)) hw) hO22.len (by have := hO22.le; omega) (by have := hO22.maxc; omega); rw [show lp.take 33 = lp from List.take_of_length_le (by have := hO22.len; omega)] at this; exact this.mono fun e w' ⟨q_, m_, c_, Y_, he, hO, hm, hb, hY⟩ => ⟨_, _, he, ⟨q_, m_, c_, rfl, hO, hm⟩, hb, hY⟩) ?_
      rintro v126 Y126 ⟨q126, m126, cq126, rfl, hO126, hm126⟩
      refine od_ ?_
      exact wk (hmx84 (Y126, Y66, cq126, cq66, m126, m66, q126, q66, γ166) ⟨hO126, hO66, hm126⟩) [5, 8, 9, 17, 18, 19, 30, 31, 33] [[_], [_], [_], [_], [_], _, _, _, _] [0, 1, 2, 3, 4, 5, 6, 7, 8] rfl rfl
     ·
      refine mo0 1 [] [5, 8, 9, 17, 18, 19, 30, 31, 32] (fun γ186 => [(10, .pointer (some ⟨γ186 0, 0, none⟩))]) (fun γ186 L => bx (γ186 0) (#[.slice none 0 0, .int .i64 0, .bool false, .int .i64 0]) 53 :: L) (fun γ186 => ?_)
      refine od_ ?_
      exact wk (hmx86 (Y66, cq66, m66, q66, γ166, γ186) hO66) [5, 8, 9, 10, 17, 18, 19, 30, 31, 32] [[_], [_], [_], [_], [_], [_], _, _, _] [0, 1, 2, 3, 4, 5, 6, 7, 8] rfl rfl
    refine any_cutX (V := (List Ob) × (List Ob) × (Nat) × (Nat) × (Nat) × (Nat) × (Option Addr) × (Option Addr)) (fun ⟨Y126, Y66, cq126, cq66, m126, m66, q126, q66⟩ => SlO 40 Y126 q126 m126 cq126 lp ∧ SlO 40 Y66 q66 m66 cq66 (runV lp x14).1 ∧ m126 ≤ 33) 5 #[true, true, true, true, true, true, false, false, false, false, false] (fun ⟨Y126, Y66, cq126, cq66, m126, m66, q126, q66⟩ => [(5, .pointer (some ⟨γ6 0, 0, none⟩)), (8, .pointer (some ⟨γ23 0, 0, none⟩)), (17, .slice (some ⟨b12, o12, none⟩) m cap2), (18, .int .i64 ((m : Nat))), (19, .int .i64 ((j : Nat))), (30, .agg #[.slice q66 m66 cq66, .int .i64 ((runV lp x14).2.1), .bool ((runV lp x14).2.2.1), .int .i64 ((runV lp x14).2.2.2)]), (31, .agg #[.int .i64 x14.kind, .int .i64 x14.a, .int .i64 x14.b, .int .i64 x14.vcpu, .bool x14.on]), (33, .agg #[.slice q126 m126 cq126])]) (fun ⟨Y126, Y66, cq126, cq66, m126, m66, q126, q66⟩ => bx (γ23 0) (#[.slice q22 m22 cq22]) 24 :: bx (γ15 0) (#[.int .i64 x14.kind, .int .i64 x14.a, .int .i64 x14.b, .int .i64 x14.vcpu, .bool x14.on]) 51 :: bx (γ6 0) (#[.slice qp mp cp]) 24 :: bx (γ1 0) (#[.slice p n cap]) 24 :: (Y126 ++ (Y66 ++ (Y22 ++ (Yp ++ []))))) ?_ (fun hmx75 => ?_)
    ·
     rintro ⟨Y126, Y66, cq126, cq66, m126, m66, q126, q66⟩ ⟨hO126, hO66, hm126⟩
     refine any_fork [6, 7, 8] (by kernel_rfl) (by simp) (each_cons _ rfl ?_ (each_cons _ rfl ?_ (each_cons _ rfl ?_ (each_nil))))
     ·
      refine cN 4 (fun v Y_ => ∃ q_ m_ c_, v = .agg #[.slice q_ m_ c_, .int .i64 ((runV lp x14).2.1), .bool ((runV lp x14).2.2.1), .int .i64 ((runV lp x14).2.2.2)] ∧ SlO 40 Y_ q_ m_ c_ (runV lp x14).1) Try.call25 (fun w hw => (wants_d x14 q126 m126 cq126 lp w (hO126.atN (A := [_, _, _, _]) hw) hO126.len (by omega)).mono fun e w' ⟨q_, m_, c_, Y_, he, hO, hb, hY⟩ => ⟨_, _, he, ⟨q_, m_, c_, rfl, hO⟩, hb, hY⟩) ?_
      rintro v146 Y146 ⟨q146, m146, cq146, rfl, hO146⟩
      refine od_ ?_
      exact wk (hmx83 (Y126, Y146, Y66, cq126, cq146, cq66, m126, m146, m66, q126, q146, q66) ⟨hO126, hO146, hO66, hm126⟩) [5, 8, 17, 18, 19, 30, 34] [[_], [_], [_], [_], _, _, _, _, _] [0, 1, 2, 3, 5, 4, 6, 7, 8] rfl rfl
     ·
      refine mo0 1 [] [5, 8, 17, 18, 19, 30, 31, 33] (fun γ166 => [(9, .pointer (some ⟨γ166 0, 0, none⟩))]) (fun γ166 L => bx (γ166 0) (#[.slice none 0 0, .int .i64 0, .bool false, .int .i64 0]) 53 :: L) (fun γ166 => ?_)
      refine od_ ?_
      exact wk (hmx84 (Y126, Y66, cq126, cq66, m126, m66, q126, q66, γ166) ⟨hO126, hO66, hm126⟩) [5, 8, 9, 17, 18, 19, 30, 31, 33] [[_], [_], [_], [_], [_], _, _, _, _] [0, 1, 2, 3, 4, 5, 6, 7, 8] rfl rfl
     ·
      refine mo0 1 [] [5, 8, 17, 18, 19, 30, 31, 33] (fun γ186 => [(10, .pointer (some ⟨γ186 0, 0, none⟩))]) (fun γ186 L => bx (γ186 0) (#[.slice none 0 0, .int .i64 0, .bool false, .int .i64 0]) 53 :: L) (fun γ186 => ?_)
      refine od_ ?_
      exact wk (hmx85 (Y126, Y66, cq126, cq66, m126, m66, q126, q66, γ186) ⟨hO126, hO66, hm126⟩) [5, 8, 10, 17, 18, 19, 30, 31, 33] [[_], [_], [_], [_], [_], _, _, _, _] [0, 1, 2, 3, 4, 5, 6, 7, 8] rfl rfl
    refine any_cutX (V := (Nat → Nat) × (Nat → Nat)) (fun ⟨γ166, γ186⟩ => True) 6 #[false, true, false, true, true, false, false, true, true, false, false] (fun ⟨γ166, γ186⟩ => [(5, .pointer (some ⟨γ6 0, 0, none⟩)), (7, .pointer (some ⟨γ15 0, 0, none⟩)), (8, .pointer (some ⟨γ23 0, 0, none⟩)), (9, .pointer (some ⟨γ166 0, 0, none⟩)), (10, .pointer (some ⟨γ186 0, 0, none⟩)), (17, .slice (some ⟨b12, o12, none⟩) m cap2), (18, .int .i64 ((m : Nat))), (19, .int .i64 ((j : Nat))), (29, .agg #[.slice qp mp cp]), (31, .agg #[.int .i64 x14.kind, .int .i64 x14.a, .int .i64 x14.b, .int .i64 x14.vcpu, .bool x14.on]), (32, .agg #[.slice q22 m22 cq22])]) (fun ⟨γ166, γ186⟩ => bx (γ186 0) (#[.slice none 0 0, .int .i64 0, .bool false, .int .i64 0]) 53 :: bx (γ166 0) (#[.slice none 0 0, .int .i64 0, .bool false, .int .i64 0]) 53 :: bx (γ23 0) (#[.slice q22 m22 cq22]) 24 :: bx (γ15 0) (#[.int .i64 x14.kind, .int .i64 x14.a, .int .i64 x14.b, .int .i64 x14.vcpu, .bool x14.on]) 51 :: bx (γ6 0) (#[.slice qp mp cp]) 24 :: bx (γ1 0) (#[.slice p n cap]) 24 :: (Y22 ++ (Yp ++ []))) ?_ (fun hmx74 => ?_)
    ·
     rintro ⟨γ166, γ186⟩ _
     refine a1 0 rfl ?_
     refine qo0 1 [(0, .go (owns 3 0 5))] [5, 8, 9, 10, 17, 18, 19, 29, 31, 32] [(28, .agg #[.int .i64 x14.kind, .int .i64 x14.a, .int .i64 x14.b, .int .i64 x14.vcpu, .bool x14.on])] ?_
     refine od_ ?_
     exact wk (hmx82 (γ166, γ186) trivial) [5, 8, 9, 10, 17, 18, 19, 28, 29, 31, 32] [[_], [_], [_], [_], [_], [_], _, _] [0, 1, 2, 3, 4, 5, 6, 7] rfl rfl
    refine any_cutX (V := (Nat → Nat) × (Nat → Nat)) (fun ⟨γ166, γ186⟩ => True) 6 #[true, false, false, true, true, false, false, true, true, false, false] (fun ⟨γ166, γ186⟩ => [(5, .pointer (some ⟨γ6 0, 0, none⟩)), (8, .pointer (some ⟨γ23 0, 0, none⟩)), (9, .pointer (some ⟨γ166 0, 0, none⟩)), (10, .pointer (some ⟨γ186 0, 0, none⟩)), (17, .slice (some ⟨b12, o12, none⟩) m cap2), (18, .int .i64 ((m : Nat))), (19, .int .i64 ((j : Nat))), (28, .agg #[.int .i64 x14.kind, .int .i64 x14.a, .int .i64 x14.b, .int .i64 x14.vcpu, .bool x14.on]), (31, .agg #[.int .i64 x14.kind, .int .i64 x14.a, .int .i64 x14.b, .int .i64 x14.vcpu, .bool x14.on]), (32, .agg #[.slice q22 m22 cq22])]) (fun ⟨γ166, γ186⟩ => bx (γ186 0) (#[.slice none 0 0, .int .i64 0, .bool false, .int .i64 0]) 53 :: bx (γ166 0) (#[.slice none 0 0, .int .i64 0, .bool false, .int .i64 0]) 53 :: bx (γ23 0) (#[.slice q22 m22 cq22]) 24 :: bx (γ15 0) (#[.int .i64 x14.kind, .int .i64 x14.a, .int .i64 x14.b, .int .i64 x14.vcpu, .bool x14.on]) 51 :: bx (γ6 0) (#[.slice qp mp cp]) 24 :: bx (γ1 0) (#[.slice p n cap]) 24 :: (Y22 ++ (Yp ++ []))) ?_ (fun hmx73 => ?_)
    ·
     rintro ⟨γ166, γ186⟩ _
     refine a1 1 rfl ?_
     refine qo0 1 [(1, .go (owns 4 0 1))] [5, 8, 9, 10, 17, 18, 19, 28, 31, 32] [(29, .agg #[.slice qp mp cp])] ?_
     refine od_ ?_
     exact wk (hmx82 (γ166, γ186) trivial) [5, 8, 9, 10, 17, 18, 19, 28, 29, 31, 32] [[_], [_], [_], [_], [_], [_], _, _] [0, 1, 2, 3, 4, 5, 6, 7] rfl rfl
    refine any_cutX (V := (Nat → Nat) × (Nat → Nat)) (fun ⟨γ166, γ186⟩ => True) 6 #[true, true, false, false, true, false, false, true, true, false, false] (fun ⟨γ166, γ186⟩ => [(5, .pointer (some ⟨γ6 0, 0, none⟩)), (7, .pointer (some ⟨γ15 0, 0, none⟩)), (8, .pointer (some ⟨γ23 0, 0, none⟩)), (9, .pointer (some ⟨γ166 0, 0, none⟩)), (10, .pointer (some ⟨γ186 0, 0, none⟩)), (17, .slice (some ⟨b12, o12, none⟩) m cap2), (18, .int .i64 ((m : Nat))), (19, .int .i64 ((j : Nat))), (28, .agg #[.int .i64 x14.kind, .int .i64 x14.a, .int .i64 x14.b, .int .i64 x14.vcpu, .bool x14.on]), (29, .agg #[.slice qp mp cp]), (32, .agg #[.slice q22 m22 cq22])]) (fun ⟨γ166, γ186⟩ => bx (γ186 0) (#[.slice none 0 0, .int .i64 0, .bool false, .int .i64 0]) 53 :: bx (γ166 0) (#[.slice none 0 0, .int .i64 0, .bool false, .int .i64 0]) 53 :: bx (γ23 0) (#[.slice q22 m22 cq22]) 24 :: bx (γ15 0) (#[.int .i64 x14.kind, .int .i64 x14.a, .int .i64 x14.b, .int .i64 x14.vcpu, .bool x14.on]) 51 :: bx (γ6 0) (#[.slice qp mp cp]) 24 :: bx (γ1 0) (#[.slice p n cap]) 24 :: (Y22 ++ (Yp ++ []))) ?_ (fun hmx72 => ?_)
    ·
     rintro ⟨γ166, γ186⟩ _
     refine any_fork [2, 3] (by kernel_rfl) (by simp) (each_cons _ rfl ?_ (each_cons _ rfl ?_ (each_nil)))
     ·
      refine cN 6 (fun v Y_ => ∃ q_ m_ c_, v = .agg #[.slice q_ m_ c_, .int .i64 ((runV lp x14).2.1), .bool ((runV lp x14).2.2.1), .int .i64 ((runV lp x14).2.2.2)] ∧ SlO 40 Y_ q_ m_ c_ (runV lp x14).1) Try.call24 (fun w hw => (run_d x14 qp mp cp lp w (hP.atN (A := (_ :: _ :: _ :: _ :: _ :: _ :: Y22)) hw) hP.len (by omega)).mono fun e w' ⟨q_, m_, c_, Y_, he, hO, hb, hY⟩ => ⟨_, _, he, ⟨q_, m_, c_, rfl, hO⟩, hb, hY⟩) ?_
      rintro v66 Y66 ⟨q66, m66, cq66, rfl, hO66⟩
      refine od_ ?_
      exact wk (hmx81 (Y66, cq66, m66, q66, γ166, γ186) hO66) [5, 7, 8, 9, 10, 17, 18, 19, 30, 32] [[_], [_], [_], [_], [_], [_], _, _, _] [0, 1, 2, 3, 4, 5, 6, 7, 8] rfl rfl
     ·
      refine qo0 1 [(3, .go (owns 3 0 5))] [5, 8, 9, 10, 17, 18, 19, 28, 29, 32] [(31, .agg #[.int .i64 x14.kind, .int .i64 x14.a, .int .i64 x14.b, .int .i64 x14.vcpu, .bool x14.on])] ?_
      refine od_ ?_
      exact wk (hmx82 (γ166, γ186) trivial) [5, 8, 9, 10, 17, 18, 19, 28, 29, 31, 32] [[_], [_], [_], [_], [_], [_], _, _] [0, 1, 2, 3, 4, 5, 6, 7] rfl rfl
    refine any_cutX (V := (Nat → Nat) × (Nat → Nat)) (fun ⟨γ166, γ186⟩ => True) 6 #[true, true, false, true, false, false, false, true, true, false, false] (fun ⟨γ166, γ186⟩ => [(5, .pointer (some ⟨γ6 0, 0, none⟩)), (8, .pointer (some ⟨γ23 0, 0, none⟩)), (9, .pointer (some ⟨γ166 0, 0, none⟩)), (10, .pointer (some ⟨γ186 0, 0, none⟩)), (17, .slice (some ⟨b12, o12, none⟩) m cap2), (18, .int .i64 ((m : Nat))), (19, .int .i64 ((j : Nat))), (28, .agg #[.int .i64 x14.kind, .int .i64 x14.a, .int .i64 x14.b, .int .i64 x14.vcpu, .bool x14.on]), (29, .agg #[.slice qp mp cp]), (31, .agg #[.int .i64 x14.kind, .int .i64 x14.a, .int .i64 x14.b, .int .i64 x14.vcpu, .bool x14.on])]) (fun ⟨γ166, γ186⟩ => bx (γ186 0) (#[.slice none 0 0, .int .i64 0, .bool false, .int .i64 0]) 53 :: bx (γ166 0) (#[.slice none 0 0, .int .i64 0, .bool false, .int .i64 0]) 53 :: bx (γ23 0) (#[.slice q22 m22 cq22]) 24 :: bx (γ15 0) (#[.int .i64 x14.kind, .int .i64 x14.a, .int .i64 x14.b, .int .i64 x14.vcpu, .bool x14.on]) 51 :: bx (γ6 0) (#[.slice qp mp cp]) 24 :: bx (γ1 0) (#[.slice p n cap]) 24 :: (Y22 ++ (Yp ++ []))) ?_ (fun hmx71 => ?_)
    ·
     rintro ⟨γ166, γ186⟩ _
     refine any_fork [2, 4] (by kernel_rfl) (by simp) (each_cons _ rfl ?_ (each_cons _ rfl ?_ (each_nil)))
     ·
      refine cN 6 (fun v Y_ => ∃ q_ m_ c_, v = .agg #[.slice q_ m_ c_, .int .i64 ((runV lp x14).2.1), .bool ((runV lp x14).2.2.1), .int .i64 ((runV lp x14).2.2.2)] ∧ SlO 40 Y_ q_ m_ c_ (runV lp x14).1) Try.call24 (fun w hw => (run_d x14 qp mp cp lp w (hP.atN (A := (_ :: _ :: _ :: _ :: _ :: _ :: Y22)) hw) hP.len (by omega)).mono fun e w' ⟨q_, m_, c_, Y_, he, hO, hb, hY⟩ => ⟨_, _, he, ⟨q_, m_, c_, rfl, hO⟩, hb, hY⟩) ?_
      rintro v66 Y66 ⟨q66, m66, cq66, rfl, hO66⟩
      refine od_ ?_
      exact wk (hmx78 (Y66, cq66, m66, q66, γ166, γ186) hO66) [5, 8, 9, 10, 17, 18, 19, 30, 31] [[_], [_], [_], [_], [_], [_], _, _, _] [0, 1, 2, 3, 4, 5, 6, 7, 8] rfl rfl
     ·
      refine qo0 1 [(4, .go (owns 2 0 1))] [5, 8, 9, 10, 17, 18, 19, 28, 29, 31] [(32, .agg #[.slice q22 m22 cq22])] ?_
      refine od_ ?_
      exact wk (hmx82 (γ166, γ186) trivial) [5, 8, 9, 10, 17, 18, 19, 28, 29, 31, 32] [[_], [_], [_], [_], [_], [_], _, _] [0, 1, 2, 3, 4, 5, 6, 7] rfl rfl
    refine any_cutX (V := (Nat → Nat)) (fun γ186 => True) 6 #[true, true, false, true, true, false, false, false, true, false, false] (fun γ186 => [(5, .pointer (some ⟨γ6 0, 0, none⟩)), (8, .pointer (some ⟨γ23 0, 0, none⟩)), (10, .pointer (some ⟨γ186 0, 0, none⟩)), (17, .slice (some ⟨b12, o12, none⟩) m cap2), (18, .int .i64 ((m : Nat))), (19, .int .i64 ((j : Nat))), (28, .agg #[.int .i64 x14.kind, .int .i64 x14.a, .int .i64 x14.b, .int .i64 x14.vcpu, .bool x14.on]), (29, .agg #[.slice qp mp cp]), (31, .agg #[.int .i64 x14.kind, .int .i64 x14.a, .int .i64 x14.b, .int .i64 x14.vcpu, .bool x14.on]), (32, .agg #[.slice q22 m22 cq22])]) (fun γ186 => bx (γ186 0) (#[.slice none 0 0, .int .i64 0, .bool false, .int .i64 0]) 53 :: bx (γ23 0) (#[.slice q22 m22 cq22]) 24 :: bx (γ15 0) (#[.int .i64 x14.kind, .int .i64 x14.a, .int .i64 x14.b, .int .i64 x14.vcpu, .bool x14.on]) 51 :: bx (γ6 0) (#[.slice qp mp cp]) 24 :: bx (γ1 0) (#[.slice p n cap]) 24 :: (Y22 ++ (Yp ++ []))) ?_ (fun hmx70 => ?_)
    ·
     rintro γ186 _
     refine any_fork [2, 7] (by kernel_rfl) (by simp) (each_cons _ rfl ?_ (each_cons _ rfl ?_ (each_nil)))
     ·
      refine cN 5 (fun v Y_ => ∃ q_ m_ c_, v = .agg #[.slice q_ m_ c_, .int .i64 ((runV lp x14).2.1), .bool ((runV lp x14).2.2.1), .int .i64 ((runV lp x14).2.2.2)] ∧ SlO 40 Y_ q_ m_ c_ (runV lp x14).1) Try.call24 (fun w hw => (run_d x14 qp mp cp lp w (hP.atN (A := (_ :: _ :: _ :: _ :: _ :: Y22)) hw) hP.len (by omega)).mono fun e w' ⟨q_, m_, c_, Y_, he, hO, hb, hY⟩ => ⟨_, _, he, ⟨q_, m_, c_, rfl, hO⟩, hb, hY⟩) ?_
      rintro v66 Y66 ⟨q66, m66, cq66, rfl, hO66⟩
      refine od_ ?_
      exact wk (hmx77 (Y66, cq66, m66, q66, γ186) hO66) [5, 8, 10, 17, 18, 19, 30, 31, 32] [[_], [_], [_], [_], [_], _, _, _] [0, 1, 2, 3, 4, 5, 6, 7] rfl rfl
     ·
      refine mo0 1 [] [5, 8, 10, 17, 18, 19, 28, 29, 31, 32] (fun γ166 => [(9, .pointer (some ⟨γ166 0, 0, none⟩))]) (fun γ166 L => bx (γ166 0) (#[.slice none 0 0, .int .i64 0, .bool false, .int .i64 0]) 53 :: L) (fun γ166 => ?_)
      refine od_ ?_
      exact wk (hmx82 (γ166, γ186) trivial) [5, 8, 9, 10, 17, 18, 19, 28, 29, 31, 32] [[_], [_], [_], [_], [_], [_], _, _] [1, 0, 2, 3, 4, 5, 6, 7] rfl rfl
    refine any_cutX (V := (Nat → Nat)) (fun γ166 => True) 6 #[true, true, false, true, true, false, false, true, false, false, false] (fun γ166 => [(5, .pointer (some ⟨γ6 0, 0, none⟩)), (8, .pointer (some ⟨γ23 0, 0, none⟩)), (9, .pointer (some ⟨γ166 0, 0, none⟩)), (17, .slice (some ⟨b12, o12, none⟩) m cap2), (18, .int .i64 ((m : Nat))), (19, .int .i64 ((j : Nat))), (28, .agg #[.int .i64 x14.kind, .int .i64 x14.a, .int .i64 x14.b, .int .i64 x14.vcpu, .bool x14.on]), (29, .agg #[.slice qp mp cp]), (31, .agg #[.int .i64 x14.kind, .int .i64 x14.a, .int .i64 x14.b, .int .i64 x14.vcpu, .bool x14.on]), (32, .agg #[.slice q22 m22 cq22])]) (fun γ166 => bx (γ166 0) (#[.slice none 0 0, .int .i64 0, .bool false, .int .i64 0]) 53 :: bx (γ23 0) (#[.slice q22 m22 cq22]) 24 :: bx (γ15 0) (#[.int .i64 x14.kind, .int .i64 x14.a, .int .i64 x14.b, .int .i64 x14.vcpu, .bool x14.on]) 51 :: bx (γ6 0) (#[.slice qp mp cp]) 24 :: bx (γ1 0) (#[.slice p n cap]) 24 :: (Y22 ++ (Yp ++ []))) ?_ (fun hmx69 => ?_)
    ·
     rintro γ166 _
     refine any_fork [2, 8] (by kernel_rfl) (by simp) (each_cons _ rfl ?_ (each_cons _ rfl ?_ (each_nil)))
     ·
      refine cN 5 (fun v Y_ => ∃ q_ m_ c_, v = .agg #[.slice q_ m_ c_, .int .i64 ((runV lp x14).2.1), .bool ((runV lp x14).2.2.1), .int .i64 ((runV lp x14).2.2.2)] ∧ SlO 40 Y_ q_ m_ c_ (runV lp x14).1) Try.call24 (fun w hw => (run_d x14 qp mp cp lp w (hP.atN (A := (_ :: _ :: _ :: _ :: _ :: Y22)) hw) hP.len (by omega)).mono fun e w' ⟨q_, m_, c_, Y_, he, hO, hb, hY⟩ => ⟨_, _, he, ⟨q_, m_, c_, rfl, hO⟩, hb, hY⟩) ?_
      rintro v66 Y66 ⟨q66, m66, cq66, rfl, hO66⟩
      refine od_ ?_
      exact wk (hmx76 (Y66, cq66, m66, q66, γ166) hO66) [5, 8, 9, 17, 18, 19, 30, 31, 32] [[_], [_], [_], [_], [_], _, _, _] [0, 1, 2, 3, 4, 5, 6, 7] rfl rfl
     ·
      refine mo0 1 [] [5, 8, 9, 17, 18, 19, 28, 29, 31, 32] (fun γ186 => [(10, .pointer (some ⟨γ186 0, 0, none⟩))]) (fun γ186 L => bx (γ186 0) (#[.slice none 0 0, .int .i64 0, .bool false, .int .i64 0]) 53 :: L) (fun γ186 => ?_)
      refine od_ ?_
      exact wk (hmx82 (γ166, γ186) trivial) [5, 8, 9, 10, 17, 18, 19, 28, 29, 31, 32] [[_], [_], [_], [_], [_], [_], _, _] [0, 1, 2, 3, 4, 5, 6, 7] rfl rfl
    refine any_cutX (V := (List Ob) × (Nat) × (Nat) × (Option Addr) × (Nat → Nat) × (Nat → Nat)) (fun ⟨Y66, cq66, m66, q66, γ166, γ186⟩ => SlO 40 Y66 q66 m66 cq66 (runV lp x14).1) 6 #[true, true, true, false, false, false, false, true, true, false, false] (fun ⟨Y66, cq66, m66, q66, γ166, γ186⟩ => [(5, .pointer (some ⟨γ6 0, 0, none⟩)), (7, .pointer (some ⟨γ15 0, 0, none⟩)), (8, .pointer (some ⟨γ23 0, 0, none⟩)), (9, .pointer (some ⟨γ166 0, 0, none⟩)), (10, .pointer (some ⟨γ186 0, 0, none⟩)), (17, .slice (some ⟨b12, o12, none⟩) m cap2), (18, .int .i64 ((m : Nat))), (19, .int .i64 ((j : Nat))), (30, .agg #[.slice q66 m66 cq66, .int .i64 ((runV lp x14).2.1), .bool ((runV lp x14).2.2.1), .int .i64 ((runV lp x14).2.2.2)])]) (fun ⟨Y66, cq66, m66, q66, γ166, γ186⟩ => bx (γ186 0) (#[.slice none 0 0, .int .i64 0, .bool false, .int .i64 0]) 53 :: bx (γ166 0) (#[.slice none 0 0, .int .i64 0, .bool false, .int .i64 0]) 53 :: bx (γ23 0) (#[.slice q22 m22 cq22]) 24 :: bx (γ15 0) (#[.int .i64 x14.kind, .int .i64 x14.a, .int .i64 x14.b, .int .i64 x14.vcpu, .bool x14.on]) 51 :: bx (γ6 0) (#[.slice qp mp cp]) 24 :: bx (γ1 0) (#[.slice p n cap]) 24 :: (Y66 ++ (Y22 ++ (Yp ++ [])))) ?_ (fun hmx68 => ?_)
    ·
     rintro ⟨Y66, cq66, m66, q66, γ166, γ186⟩ hO66
     refine any_fork [3, 4] (by kernel_rfl) (by simp) (each_cons _ rfl ?_ (each_cons _ rfl ?_ (each_nil)))
     ·
      refine qo0 1 [(3, .go (owns 3 0 5))] [5, 8, 9, 10, 17, 18, 19, 30] [(31, .agg #[.int .i64 x14.kind, .int .i64 x14.a, .int .i64 x14.b, .int .i64 x14.vcpu, .bool x14.on])] ?_
      refine od_ ?_
      exact wk (hmx78 (Y66, cq66, m66, q66, γ166, γ186) hO66) [5, 8, 9, 10, 17, 18, 19, 30, 31] [[_], [_], [_], [_], [_], [_], _, _, _] [0, 1, 2, 3, 4, 5, 6, 7, 8] rfl rfl
     ·
      refine qo0 1 [(4, .go (owns 2 0 1))] [5, 7, 8, 9, 10, 17, 18, 19, 30] [(32, .agg #[.slice q22 m22 cq22])] ?_
      refine od_ ?_
      exact wk (hmx81 (Y66, cq66, m66, q66, γ166, γ186) hO66) [5, 7, 8, 9, 10, 17, 18, 19, 30, 32] [[_], [_], [_], [_], [_], [_], _, _, _] [0, 1, 2, 3, 4, 5, 6, 7, 8] rfl rfl
    refine any_cutX (V := (List Ob) × (Nat) × (Nat) × (Option Addr) × (Nat → Nat)) (fun ⟨Y66, cq66, m66, q66, γ186⟩ => SlO 40 Y66 q66 m66 cq66 (runV lp x14).1) 6 #[true, true, true, false, true, false, false, false, true, false, false] (fun ⟨Y66, cq66, m66, q66, γ186⟩ => [(5, .pointer (some ⟨γ6 0, 0, none⟩)), (7, .pointer (some ⟨γ15 0, 0, none⟩)), (8, .pointer (some ⟨γ23 0, 0, none⟩)), (10, .pointer (some ⟨γ186 0, 0, none⟩)), (17, .slice (some ⟨b12, o12, none⟩) m cap2), (18, .int .i64 ((m : Nat))), (19, .int .i64 ((j : Nat))), (30, .agg #[.slice q66 m66 cq66, .int .i64 ((runV lp x14).2.1), .bool ((runV lp x14).2.2.1), .int .i64 ((runV lp x14).2.2.2)]), (32, .agg #[.slice q22 m22 cq22])]) (fun ⟨Y66, cq66, m66, q66, γ186⟩ => bx (γ186 0) (#[.slice none 0 0, .int .i64 0, .bool false, .int .i64 0]) 53 :: bx (γ23 0) (#[.slice q22 m22 cq22]) 24 :: bx (γ15 0) (#[.int .i64 x14.kind, .int .i64 x14.a, .int .i64 x14.b, .int .i64 x14.vcpu, .bool x14.on]) 51 :: bx (γ6 0) (#[.slice qp mp cp]) 24 :: bx (γ1 0) (#[.slice p n cap]) 24 :: (Y66 ++ (Y22 ++ (Yp ++ [])))) ?_ (fun hmx67 => ?_)
    ·
     rintro ⟨Y66, cq66, m66, q66, γ186⟩ hO66
     refine any_fork [3, 5, 7] (by kernel_rfl) (by simp) (each_cons _ rfl ?_ (each_cons _ rfl ?_ (each_cons _ rfl ?_ (each_nil))))
     ·
      refine qo0 1 [(3, .go (owns 2 0 5))] [5, 8, 10, 17, 18, 19, 30, 32] [(31, .agg #[.int .i64 x14.kind, .int .i64 x14.a, .int .i64 x14.b, .int .i64 x14.vcpu, .bool x14.on])] ?_
      refine od_ ?_
      exact wk (hmx77 (Y66, cq66, m66, q66, γ186) hO66) [5, 8, 10, 17, 18, 19, 30, 31, 32] [[_], [_], [_], [_], [_], _, _, _] [0, 1, 2, 3, 4, 5, 6, 7] rfl rfl
     ·
      refine cN 5 (fun v Y_ => ∃ q_ m_ c_, v = .agg #[.slice q_ m_ c_] ∧ SlO 40 Y_ q_ m_ c_ lp ∧ m_ ≤ 33) Try.call11 (fun w hw => by have := short_d q22 m22 cq22 lp w (hO22.atN (A := (_ :: _ :: _ :: _ :: _ :: Y66)) hw) hO22.len (by have := hO22.le; omega) (by have := hO22.maxc; omega); rw [show lp.take 33 = lp from List.take_of_length_le (by have := hO22.len; omega)] at this; exact this.mono fun e w' ⟨q_, m_, c_, Y_, he, hO, hm, hb, hY⟩ => ⟨_, _, he, ⟨q_, m_, c_, rfl, hO, hm⟩, hb, hY⟩) ?_
      rintro v126 Y126 ⟨q126, m126, cq126, rfl, hO126, hm126⟩
      refine od_ ?_
      exact wk (hmx80 (Y126, Y66, cq126, cq66, m126, m66, q126, q66, γ186) ⟨hO126, hO66, hm126⟩) [5, 7, 8, 10, 17, 18, 19, 30, 33] [[_], [_], [_], [_], [_], _, _, _, _] [0, 1, 2, 3, 4, 5, 6, 7, 8] rfl rfl
     ·
      refine mo0 1 [] [5, 7, 8, 10, 17, 18, 19, 30, 32] (fun γ166 => [(9, .pointer (some ⟨γ166 0, 0, none⟩))]) (fun γ166 L => bx (γ166 0) (#[.slice none 0 0, .int .i64 0, .bool false, .int .i64 0]) 53 :: L) (fun γ166 => ?_)
      refine od_ ?_
      exact wk (hmx81 (Y66, cq66, m66, q66, γ166, γ186) hO66) [5, 7, 8, 9, 10, 17, 18, 19, 30, 32] [[_], [_], [_], [_], [_], [_], _, _, _] [1, 0, 2, 3, 4, 5, 6, 7, 8] rfl rfl
    refine any_cutX (V := (List Ob) × (Nat) × (Nat) × (Option Addr) × (Nat → Nat)) (fun ⟨Y66, cq66, m66, q66, γ166⟩ => SlO 40 Y66 q66 m66 cq66 (runV lp x14).1) 6 #[true, true, true, false, true, false, false, true, false, false, false] (fun ⟨Y66, cq66, m66, q66, γ166⟩ => [(5, .pointer (some ⟨γ6 0, 0, none⟩)), (7, .pointer (some ⟨γ15 0, 0, none⟩)), (8, .pointer (some ⟨γ23 0, 0, none⟩)), (9, .pointer (some ⟨γ166 0, 0, none⟩)), (17, .slice (some ⟨b12, o12, none⟩) m cap2), (18, .int .i64 ((m : Nat))), (19, .int .i64 ((j : Nat))), (30, .agg #[.slice q66 m66 cq66, .int .i64 ((runV lp x14).2.1), .bool ((runV lp x14).2.2.1), .int .i64 ((runV lp x14).2.2.2)]), (32, .agg #[.slice q22 m22 cq22])]) (fun ⟨Y66, cq66, m66, q66, γ166⟩ => bx (γ166 0) (#[.slice none 0 0, .int .i64 0, .bool false, .int .i64 0]) 53 :: bx (γ23 0) (#[.slice q22 m22 cq22]) 24 :: bx (γ15 0) (#[.int .i64 x14.kind, .int .i64 x14.a, .int .i64 x14.b, .int .i64 x14.vcpu, .bool x14.on]) 51 :: bx (γ6 0) (#[.slice qp mp cp]) 24 :: bx (γ1 0) (#[.slice p n cap]) 24 :: (Y66 ++ (Y22 ++ (Yp ++ [])))) ?_ (fun hmx66 => ?_)
    ·
     rintro ⟨Y66, cq66, m66, q66, γ166⟩ hO66
     refine any_fork [3, 5, 8] (by kernel_rfl) (by simp) (each_cons _ rfl ?_ (each_cons _ rfl ?_ (each_cons _ rfl ?_ (each_nil))))
     ·
      refine qo0 1 [(3, .go (owns 2 0 5))] [5, 8, 9, 17, 18, 19, 30, 32] [(31, .agg #[.int .i64 x14.kind, .int .i64 x14.a, .int .i64 x14.b, .int .i64 x14.vcpu, .bool x14.on])] ?_
      refine od_ ?_
      exact wk (hmx76 (Y66, cq66, m66, q66, γ166) hO66) [5, 8, 9, 17, 18, 19, 30, 31, 32] [[_], [_], [_], [_], [_], _, _, _] [0, 1, 2, 3, 4, 5, 6, 7] rfl rfl
     ·
      refine cN 5 (fun v Y_ => ∃ q_ m_ c_, v = .agg #[.slice q_ m_ c_] ∧ SlO 40 Y_ q_ m_ c_ lp ∧ m_ ≤ 33) Try.call11 (fun w hw => by have := short_d q22 m22 cq22 lp w (hO22.atN (A := (_ :: _ :: _ :: _ :: _ :: Y66)) hw) hO22.len (by have := hO22.le; omega) (by have := hO22.maxc; omega); rw [show lp.take 33 = lp from List.take_of_length_le (by have := hO22.len; omega)] at this; exact this.mono fun e w' ⟨q_, m_, c_, Y_, he, hO, hm, hb, hY⟩ => ⟨_, _, he, ⟨q_, m_, c_, rfl, hO, hm⟩, hb, hY⟩) ?_
      rintro v126 Y126 ⟨q126, m126, cq126, rfl, hO126, hm126⟩
      refine od_ ?_
      exact wk (hmx79 (Y126, Y66, cq126, cq66, m126, m66, q126, q66, γ166) ⟨hO126, hO66, hm126⟩) [5, 7, 8, 9, 17, 18, 19, 30, 33] [[_], [_], [_], [_], [_], _, _, _, _] [0, 1, 2, 3, 4, 5, 6, 7, 8] rfl rfl
     ·
      refine mo0 1 [] [5, 7, 8, 9, 17, 18, 19, 30, 32] (fun γ186 => [(10, .pointer (some ⟨γ186 0, 0, none⟩))]) (fun γ186 L => bx (γ186 0) (#[.slice none 0 0, .int .i64 0, .bool false, .int .i64 0]) 53 :: L) (fun γ186 => ?_)
      refine od_ ?_
      exact wk (hmx81 (Y66, cq66, m66, q66, γ166, γ186) hO66) [5, 7, 8, 9, 10, 17, 18, 19, 30, 32] [[_], [_], [_], [_], [_], [_], _, _, _] [0, 1, 2, 3, 4, 5, 6, 7, 8] rfl rfl
    refine any_cutX (V := (List Ob) × (List Ob) × (Nat) × (Nat) × (Nat) × (Nat) × (Option Addr) × (Option Addr)) (fun ⟨Y126, Y66, cq126, cq66, m126, m66, q126, q66⟩ => SlO 40 Y126 q126 m126 cq126 lp ∧ SlO 40 Y66 q66 m66 cq66 (runV lp x14).1 ∧ m126 ≤ 33) 6 #[true, true, true, false, true, true, false, false, false, false, false] (fun ⟨Y126, Y66, cq126, cq66, m126, m66, q126, q66⟩ => [(5, .pointer (some ⟨γ6 0, 0, none⟩)), (7, .pointer (some ⟨γ15 0, 0, none⟩)), (8, .pointer (some ⟨γ23 0, 0, none⟩)), (17, .slice (some ⟨b12, o12, none⟩) m cap2), (18, .int .i64 ((m : Nat))), (19, .int .i64 ((j : Nat))), (30, .agg #[.slice q66 m66 cq66, .int .i64 ((runV lp x14).2.1), .bool ((runV lp x14).2.2.1), .int .i64 ((runV lp x14).2.2.2)]), (33, .agg #[.slice q126 m126 cq126])]) (fun ⟨Y126, Y66, cq126, cq66, m126, m66, q126, q66⟩ => bx (γ23 0) (#[.slice q22 m22 cq22]) 24 :: bx (γ15 0) (#[.int .i64 x14.kind, .int .i64 x14.a, .int .i64 x14.b, .int .i64 x14.vcpu, .bool x14.on]) 51 :: bx (γ6 0) (#[.slice qp mp cp]) 24 :: bx (γ1 0) (#[.slice p n cap]) 24 :: (Y126 ++ (Y66 ++ (Y22 ++ (Yp ++ []))))) ?_ (fun hmx65 => ?_)
    ·
     rintro ⟨Y126, Y66, cq126, cq66, m126, m66, q126, q66⟩ ⟨hO126, hO66, hm126⟩
     refine any_fork [3, 7, 8] (by kernel_rfl) (by simp) (each_cons _ rfl ?_ (each_cons _ rfl ?_ (each_cons _ rfl ?_ (each_nil))))
     ·
      refine qo0 1 [(3, .go (owns 1 0 5))] [5, 8, 17, 18, 19, 30, 33] [(31, .agg #[.int .i64 x14.kind, .int .i64 x14.a, .int .i64 x14.b, .int .i64 x14.vcpu, .bool x14.on])] ?_
      refine od_ ?_
      exact wk (hmx75 (Y126, Y66, cq126, cq66, m126, m66, q126, q66) ⟨hO126, hO66, hm126⟩) [5, 8, 17, 18, 19, 30, 31, 33] [[_], [_], [_], [_], _, _, _, _] [0, 1, 2, 3, 4, 5, 6, 7] rfl rfl
     ·
      refine mo0 1 [] [5, 7, 8, 17, 18, 19, 30, 33] (fun γ166 => [(9, .pointer (some ⟨γ166 0, 0, none⟩))]) (fun γ166 L => bx (γ166 0) (#[.slice none 0 0, .int .i64 0, .bool false, .int .i64 0]) 53 :: L) (fun γ166 => ?_)
      refine od_ ?_
      exact wk (hmx79 (Y126, Y66, cq126, cq66, m126, m66, q126, q66, γ166) ⟨hO126, hO66, hm126⟩) [5, 7, 8, 9, 17, 18, 19, 30, 33] [[_], [_], [_], [_], [_], _, _, _, _] [0, 1, 2, 3, 4, 5, 6, 7, 8] rfl rfl
     ·
      refine mo0 1 [] [5, 7, 8, 17, 18, 19, 30, 33] (fun γ186 => [(10, .pointer (some ⟨γ186 0, 0, none⟩))]) (fun γ186 L => bx (γ186 0) (#[.slice none 0 0, .int .i64 0, .bool false, .int .i64 0]) 53 :: L) (fun γ186 => ?_)
      refine od_ ?_
      exact wk (hmx80 (Y126, Y66, cq126, cq66, m126, m66, q126, q66, γ186) ⟨hO126, hO66, hm126⟩) [5, 7, 8, 10, 17, 18, 19, 30, 33] [[_], [_], [_], [_], [_], _, _, _, _] [0, 1, 2, 3, 4, 5, 6, 7, 8] rfl rfl
    refine any_cutX (V := (List Ob) × (Nat) × (Nat) × (Option Addr) × (Nat → Nat)) (fun ⟨Y66, cq66, m66, q66, γ186⟩ => SlO 40 Y66 q66 m66 cq66 (runV lp x14).1) 6 #[true, true, true, true, false, false, false, false, true, false, false] (fun ⟨Y66, cq66, m66, q66, γ186⟩ => [(5, .pointer (some ⟨γ6 0, 0, none⟩)), (8, .pointer (some ⟨γ23 0, 0, none⟩)), (10, .pointer (some ⟨γ186 0, 0, none⟩)), (17, .slice (some ⟨b12, o12, none⟩) m cap2), (18, .int .i64 ((m : Nat))), (19, .int .i64 ((j : Nat))), (30, .agg #[.slice q66 m66 cq66, .int .i64 ((runV lp x14).2.1), .bool ((runV lp x14).2.2.1), .int .i64 ((runV lp x14).2.2.2)]), (31, .agg #[.int .i64 x14.kind, .int .i64 x14.a, .int .i64 x14.b, .int .i64 x14.vcpu, .bool x14.on])]) (fun ⟨Y66, cq66, m66, q66, γ186⟩ => bx (γ186 0) (#[.slice none 0 0, .int .i64 0, .bool false, .int .i64 0]) 53 :: bx (γ23 0) (#[.slice q22 m22 cq22]) 24 :: bx (γ15 0) (#[.int .i64 x14.kind, .int .i64 x14.a, .int .i64 x14.b, .int .i64 x14.vcpu, .bool x14.on]) 51 :: bx (γ6 0) (#[.slice qp mp cp]) 24 :: bx (γ1 0) (#[.slice p n cap]) 24 :: (Y66 ++ (Y22 ++ (Yp ++ [])))) ?_ (fun hmx64 => ?_)
    ·
     rintro ⟨Y66, cq66, m66, q66, γ186⟩ hO66
     refine any_fork [4, 7] (by kernel_rfl) (by simp) (each_cons _ rfl ?_ (each_cons _ rfl ?_ (each_nil)))
     ·
      refine qo0 1 [(4, .go (owns 1 0 1))] [5, 8, 10, 17, 18, 19, 30, 31] [(32, .agg #[.slice q22 m22 cq22])] ?_
      refine od_ ?_
      exact wk (hmx77 (Y66, cq66, m66, q66, γ186) hO66) [5, 8, 10, 17, 18, 19, 30, 31, 32] [[_], [_], [_], [_], [_], _, _, _] [0, 1, 2, 3, 4, 5, 6, 7] rfl rfl
     ·
      refine mo0 1 [] [5, 8, 10, 17, 18, 19, 30, 31] (fun γ166 => [(9, .pointer (some ⟨γ166 0, 0, none⟩))]) (fun γ166 L => bx (γ166 0) (#[.slice none 0 0, .int .i64 0, .bool false, .int .i64 0]) 53 :: L) (fun γ166 => ?_)
      refine od_ ?_
      exact wk (hmx78 (Y66, cq66, m66, q66, γ166, γ186) hO66) [5, 8, 9, 10, 17, 18, 19, 30, 31] [[_], [_], [_], [_], [_], [_], _, _, _] [1, 0, 2, 3, 4, 5, 6, 7, 8] rfl rfl
    refine any_cutX (V := (List Ob) × (Nat) × (Nat) × (Option Addr) × (Nat → Nat)) (fun ⟨Y66, cq66, m66, q66, γ166⟩ => SlO 40 Y66 q66 m66 cq66 (runV lp x14).1) 6 #[true, true, true, true, false, false, false, true, false, false, false] (fun ⟨Y66, cq66, m66, q66, γ166⟩ => [(5, .pointer (some ⟨γ6 0, 0, none⟩)), (8, .pointer (some ⟨γ23 0, 0, none⟩)), (9, .pointer (some ⟨γ166 0, 0, none⟩)), (17, .slice (some ⟨b12, o12, none⟩) m cap2), (18, .int .i64 ((m : Nat))), (19, .int .i64 ((j : Nat))), (30, .agg #[.slice q66 m66 cq66, .int .i64 ((runV lp x14).2.1), .bool ((runV lp x14).2.2.1), .int .i64 ((runV lp x14).2.2.2)]), (31, .agg #[.int .i64 x14.kind, .int .i64 x14.a, .int .i64 x14.b, .int .i64 x14.vcpu, .bool x14.on])]) (fun ⟨Y66, cq66, m66, q66, γ166⟩ => bx (γ166 0) (#[.slice none 0 0, .int .i64 0, .bool false, .int .i64 0]) 53 :: bx (γ23 0) (#[.slice q22 m22 cq22]) 24 :: bx (γ15 0) (#[.int .i64 x14.kind, .int .i64 x14.a, .int .i64 x14.b, .int .i64 x14.vcpu, .bool x14.on]) 51 :: bx (γ6 0) (#[.slice qp mp cp]) 24 :: bx (γ1 0) (#[.slice p n cap]) 24 :: (Y66 ++ (Y22 ++ (Yp ++ [])))) ?_ (fun hmx63 => ?_)
    ·
     rintro ⟨Y66, cq66, m66, q66, γ166⟩ hO66
     refine any_fork [4, 8] (by kernel_rfl) (by simp) (each_cons _ rfl ?_ (each_cons _ rfl ?_ (each_nil)))
     ·
      refine qo0 1 [(4, .go (owns 1 0 1))] [5, 8, 9, 17, 18, 19, 30, 31] [(32, .agg #[.slice q22 m22 cq22])] ?_
      refine od_ ?_
      exact wk (hmx76 (Y66, cq66, m66, q66, γ166) hO66) [5, 8, 9, 17, 18, 19, 30, 31, 32] [[_], [_], [_], [_], [_], _, _, _] [0, 1, 2, 3, 4, 5, 6, 7] rfl rfl
     ·
      refine mo0 1 [] [5, 8, 9, 17, 18, 19, 30, 31] (fun γ186 => [(10, .pointer (some ⟨γ186 0, 0, none⟩))]) (fun γ186 L => bx (γ186 0) (#[.slice none 0 0, .int .i64 0, .bool false, .int .i64 0]) 53 :: L) (fun γ186 => ?_)
      refine od_ ?_
      exact wk (hmx78 (Y66, cq66, m66, q66, γ166, γ186) hO66) [5, 8, 9, 10, 17, 18, 19, 30, 31] [[_], [_], [_], [_], [_], [_], _, _, _] [0, 1, 2, 3, 4, 5, 6, 7, 8] rfl rfl
    refine any_cutX (V := (List Ob) × (Nat) × (Nat) × (Option Addr)) (fun ⟨Y66, cq66, m66, q66⟩ => SlO 40 Y66 q66 m66 cq66 (runV lp x14).1) 6 #[true, true, true, true, true, false, false, false, false, false, false] (fun ⟨Y66, cq66, m66, q66⟩ => [(5, .pointer (some ⟨γ6 0, 0, none⟩)), (8, .pointer (some ⟨γ23 0, 0, none⟩)), (17, .slice (some ⟨b12, o12, none⟩) m cap2), (18, .int .i64 ((m : Nat))), (19, .int .i64 ((j : Nat))), (30, .agg #[.slice q66 m66 cq66, .int .i64 ((runV lp x14).2.1), .bool ((runV lp x14).2.2.1), .int .i64 ((runV lp x14).2.2.2)]), (31, .agg #[.int .i64 x14.kind, .int .i64 x14.a, .int .i64 x14.b, .int .i64 x14.vcpu, .bool x14.on]), (32, .agg #[.slice q22 m22 cq22])]) (fun ⟨Y66, cq66, m66, q66⟩ => bx (γ23 0) (#[.slice q22 m22 cq22]) 24 :: bx (γ15 0) (#[.int .i64 x14.kind, .int .i64 x14.a, .int .i64 x14.b, .int .i64 x14.vcpu, .bool x14.on]) 51 :: bx (γ6 0) (#[.slice qp mp cp]) 24 :: bx (γ1 0) (#[.slice p n cap]) 24 :: (Y66 ++ (Y22 ++ (Yp ++ [])))) ?_ (fun hmx62 => ?_)
    ·
     rintro ⟨Y66, cq66, m66, q66⟩ hO66
     refine any_fork [5, 7, 8] (by kernel_rfl) (by simp) (each_cons _ rfl ?_ (each_cons _ rfl ?_ (each_cons _ rfl ?_ (each_nil))))
     ·
      refine cN 4 (fun v Y_ => ∃ q_ m_ c_, v = .agg #[.slice q_ m_ c_] ∧ SlO 40 Y_ q_ m_ c_ lp ∧ m_ ≤ 33) Try.call11 (fun w hw => by have := short_d q22 m22 cq22 lp w (hO22.atN (A := (_ :: _ :: _ :: _ :: Y66)) hw) hO22.len (by have := hO22.le; omega) (by have := hO22.maxc; omega); rw [show lp.take 33 = lp from List.take_of_length_le (by have := hO22.len; omega)] at this; exact this.mono fun e w' ⟨q_, m_, c_, Y_, he, hO, hm, hb, hY⟩ => ⟨_, _, he, ⟨q_, m_, c_, rfl, hO, hm⟩, hb, hY⟩) ?_
      rintro v126 Y126 ⟨q126, m126, cq126, rfl, hO126, hm126⟩
      refine od_ ?_
      exact wk (hmx75 (Y126, Y66, cq126, cq66, m126, m66, q126, q66) ⟨hO126, hO66, hm126⟩) [5, 8, 17, 18, 19, 30, 31, 33] [[_], [_], [_], [_], _, _, _, _] [0, 1, 2, 3, 4, 5, 6, 7] rfl rfl
     ·
      refine mo0 1 [] [5, 8, 17, 18, 19, 30, 31, 32] (fun γ166 => [(9, .pointer (some ⟨γ166 0, 0, none⟩))]) (fun γ166 L => bx (γ166 0) (#[.slice none 0 0, .int .i64 0, .bool false, .int .i64 0]) 53 :: L) (fun γ166 => ?_)
      refine od_ ?_
      exact wk (hmx76 (Y66, cq66, m66, q66, γ166) hO66) [5, 8, 9, 17, 18, 19, 30, 31, 32] [[_], [_], [_], [_], [_], _, _, _] [0, 1, 2, 3, 4, 5, 6, 7] rfl rfl
     ·
      refine mo0 1 [] [5, 8, 17, 18, 19, 30, 31, 32] (fun γ186 => [(10, .pointer (some ⟨γ186 0, 0, none⟩))]) (fun γ186 L => bx (γ186 0) (#[.slice none 0 0, .int .i64 0, .bool false, .int .i64 0]) 53 :: L) (fun γ186 => ?_)
      refine od_ ?_
      exact wk (hmx77 (Y66, cq66, m66, q66, γ186) hO66) [5, 8, 10, 17, 18, 19, 30, 31, 32] [[_], [_], [_], [_], [_], _, _, _] [0, 1, 2, 3, 4, 5, 6, 7] rfl rfl
    refine any_cutX (V := (Nat → Nat) × (Nat → Nat)) (fun ⟨γ166, γ186⟩ => True) 7 #[false, false, false, true, true, false, false, true, true, false, false] (fun ⟨γ166, γ186⟩ => [(5, .pointer (some ⟨γ6 0, 0, none⟩)), (7, .pointer (some ⟨γ15 0, 0, none⟩)), (8, .pointer (some ⟨γ23 0, 0, none⟩)), (9, .pointer (some ⟨γ166 0, 0, none⟩)), (10, .pointer (some ⟨γ186 0, 0, none⟩)), (17, .slice (some ⟨b12, o12, none⟩) m cap2), (18, .int .i64 ((m : Nat))), (19, .int .i64 ((j : Nat))), (31, .agg #[.int .i64 x14.kind, .int .i64 x14.a, .int .i64 x14.b, .int .i64 x14.vcpu, .bool x14.on]), (32, .agg #[.slice q22 m22 cq22])]) (fun ⟨γ166, γ186⟩ => bx (γ186 0) (#[.slice none 0 0, .int .i64 0, .bool false, .int .i64 0]) 53 :: bx (γ166 0) (#[.slice none 0 0, .int .i64 0, .bool false, .int .i64 0]) 53 :: bx (γ23 0) (#[.slice q22 m22 cq22]) 24 :: bx (γ15 0) (#[.int .i64 x14.kind, .int .i64 x14.a, .int .i64 x14.b, .int .i64 x14.vcpu, .bool x14.on]) 51 :: bx (γ6 0) (#[.slice qp mp cp]) 24 :: bx (γ1 0) (#[.slice p n cap]) 24 :: (Y22 ++ (Yp ++ []))) ?_ (fun hmx61 => ?_)
    ·
     rintro ⟨γ166, γ186⟩ _
     refine any_fork [0, 1] (by kernel_rfl) (by simp) (each_cons _ rfl ?_ (each_cons _ rfl ?_ (each_nil)))
     ·
      refine qo0 1 [(0, .go (owns 3 0 5))] [5, 8, 9, 10, 17, 18, 19, 31, 32] [(28, .agg #[.int .i64 x14.kind, .int .i64 x14.a, .int .i64 x14.b, .int .i64 x14.vcpu, .bool x14.on])] ?_
      refine od_ ?_
      exact wk (hmx73 (γ166, γ186) trivial) [5, 8, 9, 10, 17, 18, 19, 28, 31, 32] [[_], [_], [_], [_], [_], [_], _, _] [0, 1, 2, 3, 4, 5, 6, 7] rfl rfl
     ·
      refine qo0 1 [(1, .go (owns 4 0 1))] [5, 7, 8, 9, 10, 17, 18, 19, 31, 32] [(29, .agg #[.slice qp mp cp])] ?_
      refine od_ ?_
      exact wk (hmx74 (γ166, γ186) trivial) [5, 7, 8, 9, 10, 17, 18, 19, 29, 31, 32] [[_], [_], [_], [_], [_], [_], _, _] [0, 1, 2, 3, 4, 5, 6, 7] rfl rfl
    refine any_cutX (V := (Nat → Nat) × (Nat → Nat)) (fun ⟨γ166, γ186⟩ => True) 7 #[false, true, false, false, true, false, false, true, true, false, false] (fun ⟨γ166, γ186⟩ => [(5, .pointer (some ⟨γ6 0, 0, none⟩)), (7, .pointer (some ⟨γ15 0, 0, none⟩)), (8, .pointer (some ⟨γ23 0, 0, none⟩)), (9, .pointer (some ⟨γ166 0, 0, none⟩)), (10, .pointer (some ⟨γ186 0, 0, none⟩)), (17, .slice (some ⟨b12, o12, none⟩) m cap2), (18, .int .i64 ((m : Nat))), (19, .int .i64 ((j : Nat))), (29, .agg #[.slice qp mp cp]), (32, .agg #[.slice q22 m22 cq22])]) (fun ⟨γ166, γ186⟩ => bx (γ186 0) (#[.slice none 0 0, .int .i64 0, .bool false, .int .i64 0]) 53 :: bx (γ166 0) (#[.slice none 0 0, .int .i64 0, .bool false, .int .i64 0]) 53 :: bx (γ23 0) (#[.slice q22 m22 cq22]) 24 :: bx (γ15 0) (#[.int .i64 x14.kind, .int .i64 x14.a, .int .i64 x14.b, .int .i64 x14.vcpu, .bool x14.on]) 51 :: bx (γ6 0) (#[.slice qp mp cp]) 24 :: bx (γ1 0) (#[.slice p n cap]) 24 :: (Y22 ++ (Yp ++ []))) ?_ (fun hmx60 => ?_)
    ·
     rintro ⟨γ166, γ186⟩ _
     refine any_fork [0, 3] (by kernel_rfl) (by simp) (each_cons _ rfl ?_ (each_cons _ rfl ?_ (each_nil)))
     ·
      refine qo0 1 [(0, .go (owns 3 0 5))] [5, 7, 8, 9, 10, 17, 18, 19, 29, 32] [(28, .agg #[.int .i64 x14.kind, .int .i64 x14.a, .int .i64 x14.b, .int .i64 x14.vcpu, .bool x14.on])] ?_
      refine od_ ?_
      exact wk (hmx72 (γ166, γ186) trivial) [5, 7, 8, 9, 10, 17, 18, 19, 28, 29, 32] [[_], [_], [_], [_], [_], [_], _, _] [0, 1, 2, 3, 4, 5, 6, 7] rfl rfl
     ·
      refine qo0 1 [(3, .go (owns 3 0 5))] [5, 7, 8, 9, 10, 17, 18, 19, 29, 32] [(31, .agg #[.int .i64 x14.kind, .int .i64 x14.a, .int .i64 x14.b, .int .i64 x14.vcpu, .bool x14.on])] ?_
      refine od_ ?_
      exact wk (hmx74 (γ166, γ186) trivial) [5, 7, 8, 9, 10, 17, 18, 19, 29, 31, 32] [[_], [_], [_], [_], [_], [_], _, _] [0, 1, 2, 3, 4, 5, 6, 7] rfl rfl
    refine any_cutX (V := (Nat → Nat) × (Nat → Nat)) (fun ⟨γ166, γ186⟩ => True) 7 #[false, true, false, true, false, false, false, true, true, false, false] (fun ⟨γ166, γ186⟩ => [(5, .pointer (some ⟨γ6 0, 0, none⟩)), (7, .pointer (some ⟨γ15 0, 0, none⟩)), (8, .pointer (some ⟨γ23 0, 0, none⟩)), (9, .pointer (some ⟨γ166 0, 0, none⟩)), (10, .pointer (some ⟨γ186 0, 0, none⟩)), (17, .slice (some ⟨b12, o12, none⟩) m cap2), (18, .int .i64 ((m : Nat))), (19, .int .i64 ((j : Nat))), (29, .agg #[.slice qp mp cp]), (31, .agg #[.int .i64 x14.kind, .int .i64 x14.a, .int .i64 x14.b, .int .i64 x14.vcpu, .bool x14.on])]) (fun ⟨γ166, γ186⟩ => bx (γ186 0) (#[.slice none 0 0, .int .i64 0, .bool false, .int .i64 0]) 53 :: bx (γ166 0) (#[.slice none 0 0, .int .i64 0, .bool false, .int .i64 0]) 53 :: bx (γ23 0) (#[.slice q22 m22 cq22]) 24 :: bx (γ15 0) (#[.int .i64 x14.kind, .int .i64 x14.a, .int .i64 x14.b, .int .i64 x14.vcpu, .bool x14.on]) 51 :: bx (γ6 0) (#[.slice qp mp cp]) 24 :: bx (γ1 0) (#[.slice p n cap]) 24 :: (Y22 ++ (Yp ++ []))) ?_ (fun hmx59 => ?_)
    ·
     rintro ⟨γ166, γ186⟩ _
     refine any_fork [0, 4] (by kernel_rfl) (by simp) (each_cons _ rfl ?_ (each_cons _ rfl ?_ (each_nil)))
     ·
      refine qo0 1 [(0, .go (owns 3 0 5))] [5, 8, 9, 10, 17, 18, 19, 29, 31] [(28, .agg #[.int .i64 x14.kind, .int .i64 x14.a, .int .i64 x14.b, .int .i64 x14.vcpu, .bool x14.on])] ?_
      refine od_ ?_
      exact wk (hmx71 (γ166, γ186) trivial) [5, 8, 9, 10, 17, 18, 19, 28, 29, 31] [[_], [_], [_], [_], [_], [_], _, _] [0, 1, 2, 3, 4, 5, 6, 7] rfl rfl
     ·
      refine qo0 1 [(4, .go (owns 2 0 1))] [5, 7, 8, 9, 10, 17, 18, 19, 29, 31] [(32, .agg #[.slice q22 m22 cq22])] ?_
      refine od_ ?_
      exact wk (hmx74 (γ166, γ186) trivial) [5, 7, 8, 9, 10, 17, 18, 19, 29, 31, 32] [[_], [_], [_], [_], [_], [_], _, _] [0, 1, 2, 3, 4, 5, 6, 7] rfl rfl
    refine any_cutX (V := (Nat → Nat)) (fun γ186 => True) 7 #[false, true, false, true, true, false, false, false, true, false, false] (fun γ186 => [(5, .pointer (some ⟨γ6 0, 0, none⟩)), (7, .pointer (some ⟨γ15 0, 0, none⟩)), (8, .pointer (some ⟨γ23 0, 0, none⟩)), (10, .pointer (some ⟨γ186 0, 0, none⟩)), (17, .slice (some ⟨b12, o12, none⟩) m cap2), (18, .int .i64 ((m : Nat))), (19, .int .i64 ((j : Nat))), (29, .agg #[.slice qp mp cp]), (31, .agg #[.int .i64 x14.kind, .int .i64 x14.a, .int .i64 x14.b, .int .i64 x14.vcpu, .bool x14.on]), (32, .agg #[.slice q22 m22 cq22])]) (fun γ186 => bx (γ186 0) (#[.slice none 0 0, .int .i64 0, .bool false, .int .i64 0]) 53 :: bx (γ23 0) (#[.slice q22 m22 cq22]) 24 :: bx (γ15 0) (#[.int .i64 x14.kind, .int .i64 x14.a, .int .i64 x14.b, .int .i64 x14.vcpu, .bool x14.on]) 51 :: bx (γ6 0) (#[.slice qp mp cp]) 24 :: bx (γ1 0) (#[.slice p n cap]) 24 :: (Y22 ++ (Yp ++ []))) ?_ (fun hmx58 => ?_)
    ·
     rintro γ186 _
     refine any_fork [0, 7] (by kernel_rfl) (by simp) (each_cons _ rfl ?_ (each_cons _ rfl ?_ (each_nil)))
     ·
      refine qo0 1 [(0, .go (owns 2 0 5))] [5, 8, 10, 17, 18, 19, 29, 31, 32] [(28, .agg #[.int .i64 x14.kind, .int .i64 x14.a, .int .i64 x14.b, .int .i64 x14.vcpu, .bool x14.on])] ?_
      refine od_ ?_
      exact wk (hmx70 γ186 trivial) [5, 8, 10, 17, 18, 19, 28, 29, 31, 32] [[_], [_], [_], [_], [_], _, _] [0, 1, 2, 3, 4, 5, 6] rfl rfl
     ·
      refine mo0 1 [] [5, 7, 8, 10, 17, 18, 19, 29, 31, 32] (fun γ166 => [(9, .pointer (some ⟨γ166 0, 0, none⟩))]) (fun γ166 L => bx (γ166 0) (#[.slice none 0 0, .int .i64 0, .bool false, .int .i64 0]) 53 :: L) (fun γ166 => ?_)
      refine od_ ?_
      exact wk (hmx74 (γ166, γ186) trivial) [5, 7, 8, 9, 10, 17, 18, 19, 29, 31, 32] [[_], [_], [_], [_], [_], [_], _, _] [1, 0, 2, 3, 4, 5, 6, 7] rfl rfl
    refine any_cutX (V := (Nat → Nat)) (fun γ166 => True) 7 #[false, true, false, true, true, false, false, true, false, false, false] (fun γ166 => [(5, .pointer (some ⟨γ6 0, 0, none⟩)), (7, .pointer (some ⟨γ15 0, 0, none⟩)), (8, .pointer (some ⟨γ23 0, 0, none⟩)), (9, .pointer (some ⟨γ166 0, 0, none⟩)), (17, .slice (some ⟨b12, o12, none⟩) m cap2), (18, .int .i64 ((m : Nat))), (19, .int .i64 ((j : Nat))), (29, .agg #[.slice qp mp cp]), (31, .agg #[.int .i64 x14.kind, .int .i64 x14.a, .int .i64 x14.b, .int .i64 x14.vcpu, .bool x14.on]), (32, .agg #[.slice q22 m22 cq22])]) (fun γ166 => bx (γ166 0) (#[.slice none 0 0, .int .i64 0, .bool false, .int .i64 0]) 53 :: bx (γ23 0) (#[.slice q22 m22 cq22]) 24 :: bx (γ15 0) (#[.int .i64 x14.kind, .int .i64 x14.a, .int .i64 x14.b, .int .i64 x14.vcpu, .bool x14.on]) 51 :: bx (γ6 0) (#[.slice qp mp cp]) 24 :: bx (γ1 0) (#[.slice p n cap]) 24 :: (Y22 ++ (Yp ++ []))) ?_ (fun hmx57 => ?_)
    ·
     rintro γ166 _
     refine any_fork [0, 8] (by kernel_rfl) (by simp) (each_cons _ rfl ?_ (each_cons _ rfl ?_ (each_nil)))
     ·
      refine qo0 1 [(0, .go (owns 2 0 5))] [5, 8, 9, 17, 18, 19, 29, 31, 32] [(28, .agg #[.int .i64 x14.kind, .int .i64 x14.a, .int .i64 x14.b, .int .i64 x14.vcpu, .bool x14.on])] ?_
      refine od_ ?_
      exact wk (hmx69 γ166 trivial) [5, 8, 9, 17, 18, 19, 28, 29, 31, 32] [[_], [_], [_], [_], [_], _, _] [0, 1, 2, 3, 4, 5, 6] rfl rfl
     ·
      refine mo0 1 [] [5, 7, 8, 9, 17, 18, 19, 29, 31, 32] (fun γ186 => [(10, .pointer (some ⟨γ186 0, 0, none⟩))]) (fun γ186 L => bx (γ186 0) (#[.slice none 0 0, .int .i64 0, .bool false, .int .i64 0]) 53 :: L) (fun γ186 => ?_)
      refine od_ ?_
      exact wk (hmx74 (γ166, γ186) trivial) [5, 7, 8, 9, 10, 17, 18, 19, 29, 31, 32] [[_], [_], [_], [_], [_], [_], _, _] [0, 1, 2, 3, 4, 5, 6, 7] rfl rfl
    refine any_cutX (V := (Nat → Nat) × (Nat → Nat)) (fun ⟨γ166, γ186⟩ => True) 7 #[true, false, false, false, true, false, false, true, true, false, false] (fun ⟨γ166, γ186⟩ => [(5, .pointer (some ⟨γ6 0, 0, none⟩)), (7, .pointer (some ⟨γ15 0, 0, none⟩)), (8, .pointer (some ⟨γ23 0, 0, none⟩)), (9, .pointer (some ⟨γ166 0, 0, none⟩)), (10, .pointer (some ⟨γ186 0, 0, none⟩)), (17, .slice (some ⟨b12, o12, none⟩) m cap2), (18, .int .i64 ((m : Nat))), (19, .int .i64 ((j : Nat))), (28, .agg #[.int .i64 x14.kind, .int .i64 x14.a, .int .i64 x14.b, .int .i64 x14.vcpu, .bool x14.on]), (32, .agg #[.slice q22 m22 cq22])]) (fun ⟨γ166, γ186⟩ => bx (γ186 0) (#[.slice none 0 0, .int .i64 0, .bool false, .int .i64 0]) 53 :: bx (γ166 0) (#[.slice none 0 0, .int .i64 0, .bool false, .int .i64 0]) 53 :: bx (γ23 0) (#[.slice q22 m22 cq22]) 24 :: bx (γ15 0) (#[.int .i64 x14.kind, .int .i64 x14.a, .int .i64 x14.b, .int .i64 x14.vcpu, .bool x14.on]) 51 :: bx (γ6 0) (#[.slice qp mp cp]) 24 :: bx (γ1 0) (#[.slice p n cap]) 24 :: (Y22 ++ (Yp ++ []))) ?_ (fun hmx56 => ?_)
    ·
     rintro ⟨γ166, γ186⟩ _
     refine any_fork [1, 3] (by kernel_rfl) (by simp) (each_cons _ rfl ?_ (each_cons _ rfl ?_ (each_nil)))
     ·
      refine qo0 1 [(1, .go (owns 4 0 1))] [5, 7, 8, 9, 10, 17, 18, 19, 28, 32] [(29, .agg #[.slice qp mp cp])] ?_
      refine od_ ?_
      exact wk (hmx72 (γ166, γ186) trivial) [5, 7, 8, 9, 10, 17, 18, 19, 28, 29, 32] [[_], [_], [_], [_], [_], [_], _, _] [0, 1, 2, 3, 4, 5, 6, 7] rfl rfl
     ·
      refine qo0 1 [(3, .go (owns 3 0 5))] [5, 8, 9, 10, 17, 18, 19, 28, 32] [(31, .agg #[.int .i64 x14.kind, .int .i64 x14.a, .int .i64 x14.b, .int .i64 x14.vcpu, .bool x14.on])] ?_
      refine od_ ?_
      exact wk (hmx73 (γ166, γ186) trivial) [5, 8, 9, 10, 17, 18, 19, 28, 31, 32] [[_], [_], [_], [_], [_], [_], _, _] [0, 1, 2, 3, 4, 5, 6, 7] rfl rfl
    refine any_cutX (V := (Nat → Nat) × (Nat → Nat)) (fun ⟨γ166, γ186⟩ => True) 7 #[true, false, false, true, false, false, false, true, true, false, false] (fun ⟨γ166, γ186⟩ => [(5, .pointer (some ⟨γ6 0, 0, none⟩)), (8, .pointer (some ⟨γ23 0, 0, none⟩)), (9, .pointer (some ⟨γ166 0, 0, none⟩)), (10, .pointer (some ⟨γ186 0, 0, none⟩)), (17, .slice (some ⟨b12, o12, none⟩) m cap2), (18, .int .i64 ((m : Nat))), (19, .int .i64 ((j : Nat))), (28, .agg #[.int .i64 x14.kind, .int .i64 x14.a, .int .i64 x14.b, .int .i64 x14.vcpu, .bool x14.on]), (31, .agg #[.int .i64 x14.kind, .int .i64 x14.a, .int .i64 x14.b, .int .i64 x14.vcpu, .bool x14.on])]) (fun ⟨γ166, γ186⟩ => bx (γ186 0) (#[.slice none 0 0, .int .i64 0, .bool false, .int .i64 0]) 53 :: bx (γ166 0) (#[.slice none 0 0, .int .i64 0, .bool false, .int .i64 0]) 53 :: bx (γ23 0) (#[.slice q22 m22 cq22]) 24 :: bx (γ15 0) (#[.int .i64 x14.kind, .int .i64 x14.a, .int .i64 x14.b, .int .i64 x14.vcpu, .bool x14.on]) 51 :: bx (γ6 0) (#[.slice qp mp cp]) 24 :: bx (γ1 0) (#[.slice p n cap]) 24 :: (Y22 ++ (Yp ++ []))) ?_ (fun hmx55 => ?_)
    ·
     rintro ⟨γ166, γ186⟩ _
     refine any_fork [1, 4] (by kernel_rfl) (by simp) (each_cons _ rfl ?_ (each_cons _ rfl ?_ (each_nil)))
     ·
      refine qo0 1 [(1, .go (owns 4 0 1))] [5, 8, 9, 10, 17, 18, 19, 28, 31] [(29, .agg #[.slice qp mp cp])] ?_
      refine od_ ?_
      exact wk (hmx71 (γ166, γ186) trivial) [5, 8, 9, 10, 17, 18, 19, 28, 29, 31] [[_], [_], [_], [_], [_], [_], _, _] [0, 1, 2, 3, 4, 5, 6, 7] rfl rfl
     ·
      refine qo0 1 [(4, .go (owns 2 0 1))] [5, 8, 9, 10, 17, 18, 19, 28, 31] [(32, .agg #[.slice q22 m22 cq22])] ?_
      refine od_ ?_
      exact wk (hmx73 (γ166, γ186) trivial) [5, 8, 9, 10, 17, 18, 19, 28, 31, 32] [[_], [_], [_], [_], [_], [_], _, _] [0, 1, 2, 3, 4, 5, 6, 7] rfl rfl
    refine any_cutX (V := (Nat → Nat)) (fun γ186 => True) 7 #[true, false, false, true, true, false, false, false, true, false, false] (fun γ186 => [(5, .pointer (some ⟨γ6 0, 0, none⟩)), (8, .pointer (some ⟨γ23 0, 0, none⟩)), (10, .pointer (some ⟨γ186 0, 0, none⟩)), (17, .slice (some ⟨b12, o12, none⟩) m cap2), (18, .int .i64 ((m : Nat))), (19, .int .i64 ((j : Nat))), (28, .agg #[.int .i64 x14.kind, .int .i64 x14.a, .int .i64 x14.b, .int .i64 x14.vcpu, .bool x14.on]), (31, .agg #[.int .i64 x14.kind, .int .i64 x14.a, .int .i64 x14.b, .int .i64 x14.vcpu, .bool x14.on]), (32, .agg #[.slice q22 m22 cq22])]) (fun γ186 => bx (γ186 0) (#[.slice none 0 0, .int .i64 0, .bool false, .int .i64 0]) 53 :: bx (γ23 0) (#[.slice q22 m22 cq22]) 24 :: bx (γ15 0) (#[.int .i64 x14.kind, .int .i64 x14.a, .int .i64 x14.b, .int .i64 x14.vcpu, .bool x14.on]) 51 :: bx (γ6 0) (#[.slice qp mp cp]) 24 :: bx (γ1 0) (#[.slice p n cap]) 24 :: (Y22 ++ (Yp ++ []))) ?_ (fun hmx54 => ?_)
    ·
     rintro γ186 _
     refine any_fork [1, 7] (by kernel_rfl) (by simp) (each_cons _ rfl ?_ (each_cons _ rfl ?_ (each_nil)))
     ·
      refine qo0 1 [(1, .go (owns 3 0 1))] [5, 8, 10, 17, 18, 19, 28, 31, 32] [(29, .agg #[.slice qp mp cp])] ?_
      refine od_ ?_
      exact wk (hmx70 γ186 trivial) [5, 8, 10, 17, 18, 19, 28, 29, 31, 32] [[_], [_], [_], [_], [_], _, _] [0, 1, 2, 3, 4, 5, 6] rfl rfl
     ·
      refine mo0 1 [] [5, 8, 10, 17, 18, 19, 28, 31, 32] (fun γ166 => [(9, .pointer (some ⟨γ166 0, 0, none⟩))]) (fun γ166 L => bx (γ166 0) (#[.slice none 0 0, .int .i64 0, .bool false, .int .i64 0]) 53 :: L) (fun γ166 => ?_)
      refine od_ ?_
      exact wk (hmx73 (γ166, γ186) trivial) [5, 8, 9, 10, 17, 18, 19, 28, 31, 32] [[_], [_], [_], [_], [_], [_], _, _] [1, 0, 2, 3, 4, 5, 6, 7] rfl rfl
    refine any_cutX (V := (Nat → Nat)) (fun γ166 => True) 7 #[true, false, false, true, true, false, false, true, false, false, false] (fun γ166 => [(5, .pointer (some ⟨γ6 0, 0, none⟩)), (8, .pointer (some ⟨γ23 0, 0, none⟩)), (9, .pointer (some ⟨γ166 0, 0, none⟩)), (17, .slice (some ⟨b12, o12, none⟩) m cap2), (18, .int .i64 ((m : Nat))), (19, .int .i64 ((j : Nat))), (28, .agg #[.int .i64 x14.kind, .int .i64 x14.a, .int .i64 x14.b, .int .i64 x14.vcpu, .bool x14.on]), (31, .agg #[.int .i64 x14.kind, .int .i64 x14.a, .int .i64 x14.b, .int .i64 x14.vcpu, .bool x14.on]), (32, .agg #[.slice q22 m22 cq22])]) (fun γ166 => bx (γ166 0) (#[.slice none 0 0, .int .i64 0, .bool false, .int .i64 0]) 53 :: bx (γ23 0) (#[.slice q22 m22 cq22]) 24 :: bx (γ15 0) (#[.int .i64 x14.kind, .int .i64 x14.a, .int .i64 x14.b, .int .i64 x14.vcpu, .bool x14.on]) 51 :: bx (γ6 0) (#[.slice qp mp cp]) 24 :: bx (γ1 0) (#[.slice p n cap]) 24 :: (Y22 ++ (Yp ++ []))) ?_ (fun hmx53 => ?_)
    ·
     rintro γ166 _
     refine any_fork [1, 8] (by kernel_rfl) (by simp) (each_cons _ rfl ?_ (each_cons _ rfl ?_ (each_nil)))
     ·
      refine qo0 1 [(1, .go (owns 3 0 1))] [5, 8, 9, 17, 18, 19, 28, 31, 32] [(29, .agg #[.slice qp mp cp])] ?_
      refine od_ ?_
      exact wk (hmx69 γ166 trivial) [5, 8, 9, 17, 18, 19, 28, 29, 31, 32] [[_], [_], [_], [_], [_], _, _] [0, 1, 2, 3, 4, 5, 6] rfl rfl
     ·
      refine mo0 1 [] [5, 8, 9, 17, 18, 19, 28, 31, 32] (fun γ186 => [(10, .pointer (some ⟨γ186 0, 0, none⟩))]) (fun γ186 L => bx (γ186 0) (#[.slice none 0 0, .int .i64 0, .bool false, .int .i64 0]) 53 :: L) (fun γ186 => ?_)
      refine od_ ?_
      exact wk (hmx73 (γ166, γ186) trivial) [5, 8, 9, 10, 17, 18, 19, 28, 31, 32] [[_], [_], [_], [_], [_], [_], _, _] [0, 1, 2, 3, 4, 5, 6, 7] rfl rfl
    refine any_cutX (V := (Nat → Nat) × (Nat → Nat)) (fun ⟨γ166, γ186⟩ => True) 7 #[true, true, false, false, false, false, false, true, true, false, false] (fun ⟨γ166, γ186⟩ => [(5, .pointer (some ⟨γ6 0, 0, none⟩)), (7, .pointer (some ⟨γ15 0, 0, none⟩)), (8, .pointer (some ⟨γ23 0, 0, none⟩)), (9, .pointer (some ⟨γ166 0, 0, none⟩)), (10, .pointer (some ⟨γ186 0, 0, none⟩)), (17, .slice (some ⟨b12, o12, none⟩) m cap2), (18, .int .i64 ((m : Nat))), (19, .int .i64 ((j : Nat))), (28, .agg #[.int .i64 x14.kind, .int .i64 x14.a, .int .i64 x14.b, .int .i64 x14.vcpu, .bool x14.on]), (29, .agg #[.slice qp mp cp])]) (fun ⟨γ166, γ186⟩ => bx (γ186 0) (#[.slice none 0 0, .int .i64 0, .bool false, .int .i64 0]) 53 :: bx (γ166 0) (#[.slice none 0 0, .int .i64 0, .bool false, .int .i64 0]) 53 :: bx (γ23 0) (#[.slice q22 m22 cq22]) 24 :: bx (γ15 0) (#[.int .i64 x14.kind, .int .i64 x14.a, .int .i64 x14.b, .int .i64 x14.vcpu, .bool x14.on]) 51 :: bx (γ6 0) (#[.slice qp mp cp]) 24 :: bx (γ1 0) (#[.slice p n cap]) 24 :: (Y22 ++ (Yp ++ []))) ?_ (fun hmx52 => ?_)
    ·
     rintro ⟨γ166, γ186⟩ _
     refine any_fork [2, 3, 4] (by kernel_rfl) (by simp) (each_cons _ rfl ?_ (each_cons _ rfl ?_ (each_cons _ rfl ?_ (each_nil))))
     ·
      refine cN 6 (fun v Y_ => ∃ q_ m_ c_, v = .agg #[.slice q_ m_ c_, .int .i64 ((runV lp x14).2.1), .bool ((runV lp x14).2.2.1), .int .i64 ((runV lp x14).2.2.2)] ∧ SlO 40 Y_ q_ m_ c_ (runV lp x14).1) Try.call24 (fun w hw => (run_d x14 qp mp cp lp w (hP.atN (A := (_ :: _ :: _ :: _ :: _ :: _ :: Y22)) hw) hP.len (by omega)).mono fun e w' ⟨q_, m_, c_, Y_, he, hO, hb, hY⟩ => ⟨_, _, he, ⟨q_, m_, c_, rfl, hO⟩, hb, hY⟩) ?_
      rintro v66 Y66 ⟨q66, m66, cq66, rfl, hO66⟩
      refine od_ ?_
      exact wk (hmx68 (Y66, cq66, m66, q66, γ166, γ186) hO66) [5, 7, 8, 9, 10, 17, 18, 19, 30] [[_], [_], [_], [_], [_], [_], _, _, _] [0, 1, 2, 3, 4, 5, 6, 7, 8] rfl rfl
     ·
      refine qo0 1 [(3, .go (owns 3 0 5))] [5, 8, 9, 10, 17, 18, 19, 28, 29] [(31, .agg #[.int .i64 x14.kind, .int .i64 x14.a, .int .i64 x14.b, .int .i64 x14.vcpu, .bool x14.on])] ?_
      refine od_ ?_
      exact wk (hmx71 (γ166, γ186) trivial) [5, 8, 9, 10, 17, 18, 19, 28, 29, 31] [[_], [_], [_], [_], [_], [_], _, _] [0, 1, 2, 3, 4, 5, 6, 7] rfl rfl
     ·
      refine qo0 1 [(4, .go (owns 2 0 1))] [5, 7, 8, 9, 10, 17, 18, 19, 28, 29] [(32, .agg #[.slice q22 m22 cq22])] ?_
      refine od_ ?_
      exact wk (hmx72 (γ166, γ186) trivial) [5, 7, 8, 9, 10, 17, 18, 19, 28, 29, 32] [[_], [_], [_], [_], [_], [_], _, _] [0, 1, 2, 3, 4, 5, 6, 7] rfl rfl
    refine any_cutX (V := (Nat → Nat)) (fun γ186 => True) 7 #[true, true, false, false, true, false, false, false, true, false, false] (fun γ186 => [(5, .pointer (some ⟨γ6 0, 0, none⟩)), (7, .pointer (some ⟨γ15 0, 0, none⟩)), (8, .pointer (some ⟨γ23 0, 0, none⟩)), (10, .pointer (some ⟨γ186 0, 0, none⟩)), (17, .slice (some ⟨b12, o12, none⟩) m cap2), (18, .int .i64 ((m : Nat))), (19, .int .i64 ((j : Nat))), (28, .agg #[.int .i64 x14.kind, .int .i64 x14.a, .int .i64 x14.b, .int .i64 x14.vcpu, .bool x14.on]), (29, .agg #[.slice qp mp cp]), (32, .agg #[.slice q22 m22 cq22])]) (fun γ186 => bx (γ186 0) (#[.slice none 0 0, .int .i64 0, .bool false, .int .i64 0]) 53 :: bx (γ23 0) (#[.slice q22 m22 cq22]) 24 :: bx (γ15 0) (#[.int .i64 x14.kind, .int .i64 x14.a, .int .i64 x14.b, .int .i64 x14.vcpu, .bool x14.on]) 51 :: bx (γ6 0) (#[.slice qp mp cp]) 24 :: bx (γ1 0) (#[.slice p n cap]) 24 :: (Y22 ++ (Yp ++ []))) ?_ (fun hmx51 => ?_)
    ·
     rintro γ186 _
     refine any_fork [2, 3, 7] (by kernel_rfl) (by simp) (each_cons _ rfl ?_ (each_cons _ rfl ?_ (each_cons _ rfl ?_ (each_nil))))
     ·
      refine cN 5 (fun v Y_ => ∃ q_ m_ c_, v = .agg #[.slice q_ m_ c_, .int .i64 ((runV lp x14).2.1), .bool ((runV lp x14).2.2.1), .int .i64 ((runV lp x14).2.2.2)] ∧ SlO 40 Y_ q_ m_ c_ (runV lp x14).1) Try.call24 (fun w hw => (run_d x14 qp mp cp lp w (hP.atN (A := (_ :: _ :: _ :: _ :: _ :: Y22)) hw) hP.len (by omega)).mono fun e w' ⟨q_, m_, c_, Y_, he, hO, hb, hY⟩ => ⟨_, _, he, ⟨q_, m_, c_, rfl, hO⟩, hb, hY⟩) ?_
      rintro v66 Y66 ⟨q66, m66, cq66, rfl, hO66⟩
      refine od_ ?_
      exact wk (hmx67 (Y66, cq66, m66, q66, γ186) hO66) [5, 7, 8, 10, 17, 18, 19, 30, 32] [[_], [_], [_], [_], [_], _, _, _] [0, 1, 2, 3, 4, 5, 6, 7] rfl rfl
     ·
      refine qo0 1 [(3, .go (owns 2 0 5))] [5, 8, 10, 17, 18, 19, 28, 29, 32] [(31, .agg #[.int .i64 x14.kind, .int .i64 x14.a, .int .i64 x14.b, .int .i64 x14.vcpu, .bool x14.on])] ?_
      refine od_ ?_
      exact wk (hmx70 γ186 trivial) [5, 8, 10, 17, 18, 19, 28, 29, 31, 32] [[_], [_], [_], [_], [_], _, _] [0, 1, 2, 3, 4, 5, 6] rfl rfl
     ·
      refine mo0 1 [] [5, 7, 8, 10, 17, 18, 19, 28, 29, 32] (fun γ166 => [(9, .pointer (some ⟨γ166 0, 0, none⟩))]) (fun γ166 L => bx (γ166 0) (#[.slice none 0 0, .int .i64 0, .bool false, .int .i64 0]) 53 :: L) (fun γ166 => ?_)
      refine od_ ?_
      exact wk (hmx72 (γ166, γ186) trivial) [5, 7, 8, 9, 10, 17, 18, 19, 28, 29, 32] [[_], [_], [_], [_], [_], [_], _, _] [1, 0, 2, 3, 4, 5, 6, 7] rfl rfl
    refine any_cutX (V := (Nat → Nat)) (fun γ166 => True) 7 #[true, true, false, false, true, false, false, true, false, false, false] (fun γ166 => [(5, .pointer (some ⟨γ6 0, 0, none⟩)), (7, .pointer (some ⟨γ15 0, 0, none⟩)), (8, .pointer (some ⟨γ23 0, 0, none⟩)), (9, .pointer (some ⟨γ166 0, 0, none⟩)), (17, .slice (some ⟨b12, o12, none⟩) m cap2), (18, .int .i64 ((m : Nat))), (19, .int .i64 ((j : Nat))), (28, .agg #[.int .i64 x14.kind, .int .i64 x14.a, .int .i64 x14.b, .int .i64 x14.vcpu, .bool x14.on]), (29, .agg #[.slice qp mp cp]), (32, .agg #[.slice q22 m22 cq22])]) (fun γ166 => bx (γ166 0) (#[.slice none 0 0, .int .i64 0, .bool false, .int .i64 0]) 53 :: bx (γ23 0) (#[.slice q22 m22 cq22]) 24 :: bx (γ15 0) (#[.int .i64 x14.kind, .int .i64 x14.a, .int .i64 x14.b, .int .i64 x14.vcpu, .bool x14.on]) 51 :: bx (γ6 0) (#[.slice qp mp cp]) 24 :: bx (γ1 0) (#[.slice p n cap]) 24 :: (Y22 ++ (Yp ++ []))) ?_ (fun hmx50 => ?_)
    ·
     rintro γ166 _
     refine any_fork [2, 3, 8] (by kernel_rfl) (by simp) (each_cons _ rfl ?_ (each_cons _ rfl ?_ (each_cons _ rfl ?_ (each_nil))))
     ·
      refine cN 5 (fun v Y_ => ∃ q_ m_ c_, v = .agg #[.slice q_ m_ c_, .int .i64 ((runV lp x14).2.1), .bool ((runV lp x14).2.2.1), .int .i64 ((runV lp x14).2.2.2)] ∧ SlO 40 Y_ q_ m_ c_ (runV lp x14).1) Try.call24 (fun w hw => (run_d x14 qp mp cp lp w (hP.atN (A := (_ :: _ :: _ :: _ :: _ :: Y22)) hw) hP.len (by omega)).mono fun e w' ⟨q_, m_, c_, Y_, he, hO, hb, hY⟩ => ⟨_, _, he, ⟨q_, m_, c_, rfl, hO⟩, hb, hY⟩) ?_
      rintro v66 Y66 ⟨q66, m66, cq66, rfl, hO66⟩
      refine od_ ?_
      exact wk (hmx66 (Y66, cq66, m66, q66, γ166) hO66) [5, 7, 8, 9, 17, 18, 19, 30, 32] [[_], [_], [_], [_], [_], _, _, _] [0, 1, 2, 3, 4, 5, 6, 7] rfl rfl
     ·
      refine qo0 1 [(3, .go (owns 2 0 5))] [5, 8, 9, 17, 18, 19, 28, 29, 32] [(31, .agg #[.int .i64 x14.kind, .int .i64 x14.a, .int .i64 x14.b, .int .i64 x14.vcpu, .bool x14.on])] ?_
      refine od_ ?_
      exact wk (hmx69 γ166 trivial) [5, 8, 9, 17, 18, 19, 28, 29, 31, 32] [[_], [_], [_], [_], [_], _, _] [0, 1, 2, 3, 4, 5, 6] rfl rfl
     ·
      refine mo0 1 [] [5, 7, 8, 9, 17, 18, 19, 28, 29, 32] (fun γ186 => [(10, .pointer (some ⟨γ186 0, 0, none⟩))]) (fun γ186 L => bx (γ186 0) (#[.slice none 0 0, .int .i64 0, .bool false, .int .i64 0]) 53 :: L) (fun γ186 => ?_)
      refine od_ ?_
      exact wk (hmx72 (γ166, γ186) trivial) [5, 7, 8, 9, 10, 17, 18, 19, 28, 29, 32] [[_], [_], [_], [_], [_], [_], _, _] [0, 1, 2, 3, 4, 5, 6, 7] rfl rfl
    refine any_cutX (V := (Nat → Nat)) (fun γ186 => True) 7 #[true, true, false, true, false, false, false, false, true, false, false] (fun γ186 => [(5, .pointer (some ⟨γ6 0, 0, none⟩)), (8, .pointer (some ⟨γ23 0, 0, none⟩)), (10, .pointer (some ⟨γ186 0, 0, none⟩)), (17, .slice (some ⟨b12, o12, none⟩) m cap2), (18, .int .i64 ((m : Nat))), (19, .int .i64 ((j : Nat))), (28, .agg #[.int .i64 x14.kind, .int .i64 x14.a, .int .i64 x14.b, .int .i64 x14.vcpu, .bool x14.on]), (29, .agg #[.slice qp mp cp]), (31, .agg #[.int .i64 x14.kind, .int .i64 x14.a, .int .i64 x14.b, .int .i64 x14.vcpu, .bool x14.on])]) (fun γ186 => bx (γ186 0) (#[.slice none 0 0, .int .i64 0, .bool false, .int .i64 0]) 53 :: bx (γ23 0) (#[.slice q22 m22 cq22]) 24 :: bx (γ15 0) (#[.int .i64 x14.kind, .int .i64 x14.a, .int .i64 x14.b, .int .i64 x14.vcpu, .bool x14.on]) 51 :: bx (γ6 0) (#[.slice qp mp cp]) 24 :: bx (γ1 0) (#[.slice p n cap]) 24 :: (Y22 ++ (Yp ++ []))) ?_ (fun hmx49 => ?_)
    ·
     rintro γ186 _
     refine any_fork [2, 4, 7] (by kernel_rfl) (by simp) (each_cons _ rfl ?_ (each_cons _ rfl ?_ (each_cons _ rfl ?_ (each_nil))))
     ·
      refine cN 5 (fun v Y_ => ∃ q_ m_ c_, v = .agg #[.slice q_ m_ c_, .int .i64 ((runV lp x14).2.1), .bool ((runV lp x14).2.2.1), .int .i64 ((runV lp x14).2.2.2)] ∧ SlO 40 Y_ q_ m_ c_ (runV lp x14).1) Try.call24 (fun w hw => (run_d x14 qp mp cp lp w (hP.atN (A := (_ :: _ :: _ :: _ :: _ :: Y22)) hw) hP.len (by omega)).mono fun e w' ⟨q_, m_, c_, Y_, he, hO, hb, hY⟩ => ⟨_, _, he, ⟨q_, m_, c_, rfl, hO⟩, hb, hY⟩) ?_
      rintro v66 Y66 ⟨q66, m66, cq66, rfl, hO66⟩
      refine od_ ?_
      exact wk (hmx64 (Y66, cq66, m66, q66, γ186) hO66) [5, 8, 10, 17, 18, 19, 30, 31] [[_], [_], [_], [_], [_], _, _, _] [0, 1, 2, 3, 4, 5, 6, 7] rfl rfl
     ·
      refine qo0 1 [(4, .go (owns 1 0 1))] [5, 8, 10, 17, 18, 19, 28, 29, 31] [(32, .agg #[.slice q22 m22 cq22])] ?_
      refine od_ ?_
      exact wk (hmx70 γ186 trivial) [5, 8, 10, 17, 18, 19, 28, 29, 31, 32] [[_], [_], [_], [_], [_], _, _] [0, 1, 2, 3, 4, 5, 6] rfl rfl
     ·
      refine mo0 1 [] [5, 8, 10, 17, 18, 19, 28, 29, 31] (fun γ166 => [(9, .pointer (some ⟨γ166 0, 0, none⟩))]) (fun γ166 L => bx (γ166 0) (#[.slice none 0 0, .int .i64 0, .bool false, .int .i64 0]) 53 :: L) (fun γ166 => ?_)
      refine od_ ?_
      exact wk (hmx71 (γ166, γ186) trivial) [5, 8, 9, 10, 17, 18, 19, 28, 29, 31] [[_], [_], [_], [_], [_], [_], _, _] [1, 0, 2, 3, 4, 5, 6, 7] rfl rfl
    refine any_cutX (V := (Nat → Nat)) (fun γ166 => True) 7 #[true, true, false, true, false, false, false, true, false, false, false] (fun γ166 => [(5, .pointer (some ⟨γ6 0, 0, none⟩)), (8, .pointer (some ⟨γ23 0, 0, none⟩)), (9, .pointer (some ⟨γ166 0, 0, none⟩)), (17, .slice (some ⟨b12, o12, none⟩) m cap2), (18, .int .i64 ((m : Nat))), (19, .int .i64 ((j : Nat))), (28, .agg #[.int .i64 x14.kind, .int .i64 x14.a, .int .i64 x14.b, .int .i64 x14.vcpu, .bool x14.on]), (29, .agg #[.slice qp mp cp]), (31, .agg #[.int .i64 x14.kind, .int .i64 x14.a, .int .i64 x14.b, .int .i64 x14.vcpu, .bool x14.on])]) (fun γ166 => bx (γ166 0) (#[.slice none 0 0, .int .i64 0, .bool false, .int .i64 0]) 53 :: bx (γ23 0) (#[.slice q22 m22 cq22]) 24 :: bx (γ15 0) (#[.int .i64 x14.kind, .int .i64 x14.a, .int .i64 x14.b, .int .i64 x14.vcpu, .bool x14.on]) 51 :: bx (γ6 0) (#[.slice qp mp cp]) 24 :: bx (γ1 0) (#[.slice p n cap]) 24 :: (Y22 ++ (Yp ++ []))) ?_ (fun hmx48 => ?_)
    ·
     rintro γ166 _
     refine any_fork [2, 4, 8] (by kernel_rfl) (by simp) (each_cons _ rfl ?_ (each_cons _ rfl ?_ (each_cons _ rfl ?_ (each_nil))))
     ·
      refine cN 5 (fun v Y_ => ∃ q_ m_ c_, v = .agg #[.slice q_ m_ c_, .int .i64 ((runV lp x14).2.1), .bool ((runV lp x14).2.2.1), .int .i64 ((runV lp x14).2.2.2)] ∧ SlO 40 Y_ q_ m_ c_ (runV lp x14).1) Try.call24 (fun w hw => (run_d x14 qp mp cp lp w (hP.atN (A := (_ :: _ :: _ :: _ :: _ :: Y22)) hw) hP.len (by omega)).mono fun e w' ⟨q_, m_, c_, Y_, he, hO, hb, hY⟩ => ⟨_, _, he, ⟨q_, m_, c_, rfl, hO⟩, hb, hY⟩) ?_
      rintro v66 Y66 ⟨q66, m66, cq66, rfl, hO66⟩
      refine od_ ?_
      exact wk (hmx63 (Y66, cq66, m66, q66, γ166) hO66) [5, 8, 9, 17, 18, 19, 30, 31] [[_], [_], [_], [_], [_], _, _, _] [0, 1, 2, 3, 4, 5, 6, 7] rfl rfl
     ·
      refine qo0 1 [(4, .go (owns 1 0 1))] [5, 8, 9, 17, 18, 19, 28, 29, 31] [(32, .agg #[.slice q22 m22 cq22])] ?_
      refine od_ ?_
      exact wk (hmx69 γ166 trivial) [5, 8, 9, 17, 18, 19, 28, 29, 31, 32] [[_], [_], [_], [_], [_], _, _] [0, 1, 2, 3, 4, 5, 6] rfl rfl
     ·
      refine mo0 1 [] [5, 8, 9, 17, 18, 19, 28, 29, 31] (fun γ186 => [(10, .pointer (some ⟨γ186 0, 0, none⟩))]) (fun γ186 L => bx (γ186 0) (#[.slice none 0 0, .int .i64 0, .bool false, .int .i64 0]) 53 :: L) (fun γ186 => ?_)
      refine od_ ?_
      exact wk (hmx71 (γ166, γ186) trivial) [5, 8, 9, 10, 17, 18, 19, 28, 29, 31] [[_], [_], [_], [_], [_], [_], _, _] [0, 1, 2, 3, 4, 5, 6, 7] rfl rfl
    refine any_cutX (V := Unit) (fun _ => True) 7 #[true, true, false, true, true, false, false, false, false, false, false] (fun _ => [(5, .pointer (some ⟨γ6 0, 0, none⟩)), (8, .pointer (some ⟨γ23 0, 0, none⟩)), (17, .slice (some ⟨b12, o12, none⟩) m cap2), (18, .int .i64 ((m : Nat))), (19, .int .i64 ((j : Nat))), (28, .agg #[.int .i64 x14.kind, .int .i64 x14.a, .int .i64 x14.b, .int .i64 x14.vcpu, .bool x14.on]), (29, .agg #[.slice qp mp cp]), (31, .agg #[.int .i64 x14.kind, .int .i64 x14.a, .int .i64 x14.b, .int .i64 x14.vcpu, .bool x14.on]), (32, .agg #[.slice q22 m22 cq22])]) (fun _ => bx (γ23 0) (#[.slice q22 m22 cq22]) 24 :: bx (γ15 0) (#[.int .i64 x14.kind, .int .i64 x14.a, .int .i64 x14.b, .int .i64 x14.vcpu, .bool x14.on]) 51 :: bx (γ6 0) (#[.slice qp mp cp]) 24 :: bx (γ1 0) (#[.slice p n cap]) 24 :: (Y22 ++ (Yp ++ []))) ?_ (fun hmx47 => ?_)
    ·
     rintro _ _
     refine any_fork [2, 7, 8] (by kernel_rfl) (by simp) (each_cons _ rfl ?_ (each_cons _ rfl ?_ (each_cons _ rfl ?_ (each_nil))))
     ·
      refine cN 4 (fun v Y_ => ∃ q_ m_ c_, v = .agg #[.slice q_ m_ c_, .int .i64 ((runV lp x14).2.1), .bool ((runV lp x14).2.2.1), .int .i64 ((runV lp x14).2.2.2)] ∧ SlO 40 Y_ q_ m_ c_ (runV lp x14).1) Try.call24 (fun w hw => (run_d x14 qp mp cp lp w (hP.atN (A := (_ :: _ :: _ :: _ :: Y22)) hw) hP.len (by omega)).mono fun e w' ⟨q_, m_, c_, Y_, he, hO, hb, hY⟩ => ⟨_, _, he, ⟨q_, m_, c_, rfl, hO⟩, hb, hY⟩) ?_
      rintro v66 Y66 ⟨q66, m66, cq66, rfl, hO66⟩
      refine od_ ?_
      exact wk (hmx62 (Y66, cq66, m66, q66) hO66) [5, 8, 17, 18, 19, 30, 31, 32] [[_], [_], [_], [_], _, _, _] [0, 1, 2, 3, 4, 5, 6] rfl rfl
     ·
      refine mo0 1 [] [5, 8, 17, 18, 19, 28, 29, 31, 32] (fun γ166 => [(9, .pointer (some ⟨γ166 0, 0, none⟩))]) (fun γ166 L => bx (γ166 0) (#[.slice none 0 0, .int .i64 0, .bool false, .int .i64 0]) 53 :: L) (fun γ166 => ?_)
      refine od_ ?_
      exact wk (hmx69 γ166 trivial) [5, 8, 9, 17, 18, 19, 28, 29, 31, 32] [[_], [_], [_], [_], [_], _, _] [0, 1, 2, 3, 4, 5, 6] rfl rfl
     ·
      refine mo0 1 [] [5, 8, 17, 18, 19, 28, 29, 31, 32] (fun γ186 => [(10, .pointer (some ⟨γ186 0, 0, none⟩))]) (fun γ186 L => bx (γ186 0) (#[.slice none 0 0, .int .i64 0, .bool false, .int .i64 0]) 53 :: L) (fun γ186 => ?_)
      refine od_ ?_
      exact wk (hmx70 γ186 trivial) [5, 8, 10, 17, 18, 19, 28, 29, 31, 32] [[_], [_], [_], [_], [_], _, _] [0, 1, 2, 3, 4, 5, 6] rfl rfl
    refine any_cutX (V := (List Ob) × (Nat) × (Nat) × (Option Addr) × (Nat → Nat)) (fun ⟨Y66, cq66, m66, q66, γ186⟩ => SlO 40 Y66 q66 m66 cq66 (runV lp x14).1) 7 #[true, true, true, false, false, false, false, false, true, false, false] (fun ⟨Y66, cq66, m66, q66, γ186⟩ => [(5, .pointer (some ⟨γ6 0, 0, none⟩)), (7, .pointer (some ⟨γ15 0, 0, none⟩)), (8, .pointer (some ⟨γ23 0, 0, none⟩)), (10, .pointer (some ⟨γ186 0, 0, none⟩)), (17, .slice (some ⟨b12, o12, none⟩) m cap2), (18, .int .i64 ((m : Nat))), (19, .int .i64 ((j : Nat))), (30, .agg #[.slice q66 m66 cq66, .int .i64 ((runV lp x14).2.1), .bool ((runV lp x14).2.2.1), .int .i64 ((runV lp x14).2.2.2)])]) (fun ⟨Y66, cq66, m66, q66, γ186⟩ => bx (γ186 0) (#[.slice none 0 0, .int .i64 0, .bool false, .int .i64 0]) 53 :: bx (γ23 0) (#[.slice q22 m22 cq22]) 24 :: bx (γ15 0) (#[.int .i64 x14.kind, .int .i64 x14.a, .int .i64 x14.b, .int .i64 x14.vcpu, .bool x14.on]) 51 :: bx (γ6 0) (#[.slice qp mp cp]) 24 :: bx (γ1 0) (#[.slice p n cap]) 24 :: (Y66 ++ (Y22 ++ (Yp ++ [])))) ?_ (fun hmx46 => ?_)
    ·
     rintro ⟨Y66, cq66, m66, q66, γ186⟩ hO66
     refine any_fork [3, 4, 7] (by kernel_rfl) (by simp) (each_cons _ rfl ?_ (each_cons _ rfl ?_ (each_cons _ rfl ?_ (each_nil))))
     ·
      refine qo0 1 [(3, .go (owns 2 0 5))] [5, 8, 10, 17, 18, 19, 30] [(31, .agg #[.int .i64 x14.kind, .int .i64 x14.a, .int .i64 x14.b, .int .i64 x14.vcpu, .bool x14.on])] ?_
      refine od_ ?_
      exact wk (hmx64 (Y66, cq66, m66, q66, γ186) hO66) [5, 8, 10, 17, 18, 19, 30, 31] [[_], [_], [_], [_], [_], _, _, _] [0, 1, 2, 3, 4, 5, 6, 7] rfl rfl
     ·
      refine qo0 1 [(4, .go (owns 1 0 1))] [5, 7, 8, 10, 17, 18, 19, 30] [(32, .agg #[.slice q22 m22 cq22])] ?_
      refine od_ ?_
      exact wk (hmx67 (Y66, cq66, m66, q66, γ186) hO66) [5, 7, 8, 10, 17, 18, 19, 30, 32] [[_], [_], [_], [_], [_], _, _, _] [0, 1, 2, 3, 4, 5, 6, 7] rfl rfl
     ·
      refine mo0 1 [] [5, 7, 8, 10, 17, 18, 19, 30] (fun γ166 => [(9, .pointer (some ⟨γ166 0, 0, none⟩))]) (fun γ166 L => bx (γ166 0) (#[.slice none 0 0, .int .i64 0, .bool false, .int .i64 0]) 53 :: L) (fun γ166 => ?_)
      refine od_ ?_
      exact wk (hmx68 (Y66, cq66, m66, q66, γ166, γ186) hO66) [5, 7, 8, 9, 10, 17, 18, 19, 30] [[_], [_], [_], [_], [_], [_], _, _, _] [1, 0, 2, 3, 4, 5, 6, 7, 8] rfl rfl
    refine any_cutX (V := (List Ob) × (Nat) × (Nat) × (Option Addr) × (Nat → Nat)) (fun ⟨Y66, cq66, m66, q66, γ166⟩ => SlO 40 Y66 q66 m66 cq66 (runV lp x14).1) 7 #[true, true, true, false, false, false, false, true, false, false, false] (fun ⟨Y66, cq66, m66, q66, γ166⟩ => [(5, .pointer (some ⟨γ6 0, 0, none⟩)), (7, .pointer (some ⟨γ15 0, 0, none⟩)), (8, .pointer (some ⟨γ23 0, 0, none⟩)), (9, .pointer (some ⟨γ166 0, 0, none⟩)), (17, .slice (some ⟨b12, o12, none⟩) m cap2), (18, .int .i64 ((m : Nat))), (19, .int .i64 ((j : Nat))), (30, .agg #[.slice q66 m66 cq66, .int .i64 ((runV lp x14).2.1), .bool ((runV lp x14).2.2.1), .int .i64 ((runV lp x14).2.2.2)])]) (fun ⟨Y66, cq66, m66, q66, γ166⟩ => bx (γ166 0) (#[.slice none 0 0, .int .i64 0, .bool false, .int .i64 0]) 53 :: bx (γ23 0) (#[.slice q22 m22 cq22]) 24 :: bx (γ15 0) (#[.int .i64 x14.kind, .int .i64 x14.a, .int .i64 x14.b, .int .i64 x14.vcpu, .bool x14.on]) 51 :: bx (γ6 0) (#[.slice qp mp cp]) 24 :: bx (γ1 0) (#[.slice p n cap]) 24 :: (Y66 ++ (Y22 ++ (Yp ++ [])))) ?_ (fun hmx45 => ?_)
    ·
     rintro ⟨Y66, cq66, m66, q66, γ166⟩ hO66
     refine any_fork [3, 4, 8] (by kernel_rfl) (by simp) (each_cons _ rfl ?_ (each_cons _ rfl ?_ (each_cons _ rfl ?_ (each_nil))))
     ·
      refine qo0 1 [(3, .go (owns 2 0 5))] [5, 8, 9, 17, 18, 19, 30] [(31, .agg #[.int .i64 x14.kind, .int .i64 x14.a, .int .i64 x14.b, .int .i64 x14.vcpu, .bool x14.on])] ?_
      refine od_ ?_
      exact wk (hmx63 (Y66, cq66, m66, q66, γ166) hO66) [5, 8, 9, 17, 18, 19, 30, 31] [[_], [_], [_], [_], [_], _, _, _] [0, 1, 2, 3, 4, 5, 6, 7] rfl rfl
     ·
      refine qo0 1 [(4, .go (owns 1 0 1))] [5, 7, 8, 9, 17, 18, 19, 30] [(32, .agg #[.slice q22 m22 cq22])] ?_
      refine od_ ?_
      exact wk (hmx66 (Y66, cq66, m66, q66, γ166) hO66) [5, 7, 8, 9, 17, 18, 19, 30, 32] [[_], [_], [_], [_], [_], _, _, _] [0, 1, 2, 3, 4, 5, 6, 7] rfl rfl
     ·
      refine mo0 1 [] [5, 7, 8, 9, 17, 18, 19, 30] (fun γ186 => [(10, .pointer (some ⟨γ186 0, 0, none⟩))]) (fun γ186 L => bx (γ186 0) (#[.slice none 0 0, .int .i64 0, .bool false, .int .i64 0]) 53 :: L) (fun γ186 => ?_)
      refine od_ ?_
      exact wk (hmx68 (Y66, cq66, m66, q66, γ166, γ186) hO66) [5, 7, 8, 9, 10, 17, 18, 19, 30] [[_], [_], [_], [_], [_], [_], _, _, _] [0, 1, 2, 3, 4, 5, 6, 7, 8] rfl rfl
    refine any_cutX (V := (List Ob) × (Nat) × (Nat) × (Option Addr)) (fun ⟨Y66, cq66, m66, q66⟩ => SlO 40 Y66 q66 m66 cq66 (runV lp x14).1) 7 #[true, true, true, false, true, false, false, false, false, false, false] (fun ⟨Y66, cq66, m66, q66⟩ => [(5, .pointer (some ⟨γ6 0, 0, none⟩)), (7, .pointer (some ⟨γ15 0, 0, none⟩)), (8, .pointer (some ⟨γ23 0, 0, none⟩)), (17, .slice (some ⟨b12, o12, none⟩) m cap2), (18, .int .i64 ((m : Nat))), (19, .int .i64 ((j : Nat))), (30, .agg #[.slice q66 m66 cq66, .int .i64 ((runV lp x14).2.1), .bool ((runV lp x14).2.2.1), .int .i64 ((runV lp x14).2.2.2)]), (32, .agg #[.slice q22 m22 cq22])]) (fun ⟨Y66, cq66, m66, q66⟩ => bx (γ23 0) (#[.slice q22 m22 cq22]) 24 :: bx (γ15 0) (#[.int .i64 x14.kind, .int .i64 x14.a, .int .i64 x14.b, .int .i64 x14.vcpu, .bool x14.on]) 51 :: bx (γ6 0) (#[.slice qp mp cp]) 24 :: bx (γ1 0) (#[.slice p n cap]) 24 :: (Y66 ++ (Y22 ++ (Yp ++ [])))) ?_ (fun hmx44 => ?_)
    ·
     rintro ⟨Y66, cq66, m66, q66⟩ hO66
     refine any_fork [3, 5, 7, 8] (by kernel_rfl) (by simp) (each_cons _ rfl ?_ (each_cons _ rfl ?_ (each_cons _ rfl ?_ (each_cons _ rfl ?_ (each_nil)))))
     ·
      refine qo0 1 [(3, .go (owns 1 0 5))] [5, 8, 17, 18, 19, 30, 32] [(31, .agg #[.int .i64 x14.kind, .int .i64 x14.a, .int .i64 x14.b, .int .i64 x14.vcpu, .bool x14.on])] ?_
      refine od_ ?_
      exact wk (hmx62 (Y66, cq66, m66, q66) hO66) [5, 8, 17, 18, 19, 30, 31, 32] [[_], [_], [_], [_], _, _, _] [0, 1, 2, 3, 4, 5, 6] rfl rfl
     ·
      refine cN 4 (fun v Y_ => ∃ q_ m_ c_, v = .agg #[.slice q_ m_ c_] ∧ SlO 40 Y_ q_ m_ c_ lp ∧ m_ ≤ 33) Try.call11 (fun w hw => by have := short_d q22 m22 cq22 lp w (hO22.atN (A := (_ :: _ :: _ :: _ :: Y66)) hw) hO22.len (by have := hO22.le; omega) (by have := hO22.maxc; omega); rw [show lp.take 33 = lp from List.take_of_length_le (by have := hO22.len; omega)] at this; exact this.mono fun e w' ⟨q_, m_, c_, Y_, he, hO, hm, hb, hY⟩ => ⟨_, _, he, ⟨q_, m_, c_, rfl, hO, hm⟩, hb, hY⟩) ?_
      rintro v126 Y126 ⟨q126, m126, cq126, rfl, hO126, hm126⟩
      refine od_ ?_
      exact wk (hmx65 (Y126, Y66, cq126, cq66, m126, m66, q126, q66) ⟨hO126, hO66, hm126⟩) [5, 7, 8, 17, 18, 19, 30, 33] [[_], [_], [_], [_], _, _, _, _] [0, 1, 2, 3, 4, 5, 6, 7] rfl rfl
     ·
      refine mo0 1 [] [5, 7, 8, 17, 18, 19, 30, 32] (fun γ166 => [(9, .pointer (some ⟨γ166 0, 0, none⟩))]) (fun γ166 L => bx (γ166 0) (#[.slice none 0 0, .int .i64 0, .bool false, .int .i64 0]) 53 :: L) (fun γ166 => ?_)
      refine od_ ?_
      exact wk (hmx66 (Y66, cq66, m66, q66, γ166) hO66) [5, 7, 8, 9, 17, 18, 19, 30, 32] [[_], [_], [_], [_], [_], _, _, _] [0, 1, 2, 3, 4, 5, 6, 7] rfl rfl
     ·
      refine mo0 1 [] [5, 7, 8, 17, 18, 19, 30, 32] (fun γ186 => [(10, .pointer (some ⟨γ186 0, 0, none⟩))]) (fun γ186 L => bx (γ186 0) (#[.slice none 0 0, .int .i64 0, .bool false, .int .i64 0]) 53 :: L) (fun γ186 => ?_)
      refine od_ ?_
      exact wk (hmx67 (Y66, cq66, m66, q66, γ186) hO66) [5, 7, 8, 10, 17, 18, 19, 30, 32] [[_], [_], [_], [_], [_], _, _, _] [0, 1, 2, 3, 4, 5, 6, 7] rfl rfl
    refine any_cutX (V := (List Ob) × (Nat) × (Nat) × (Option Addr)) (fun ⟨Y66, cq66, m66, q66⟩ => SlO 40 Y66 q66 m66 cq66 (runV lp x14).1) 7 #[true, true, true, true, false, false, false, false, false, false, false] (fun ⟨Y66, cq66, m66, q66⟩ => [(5, .pointer (some ⟨γ6 0, 0, none⟩)), (8, .pointer (some ⟨γ23 0, 0, none⟩)), (17, .slice (some ⟨b12, o12, none⟩) m cap2), (18, .int .i64 ((m : Nat))), (19, .int .i64 ((j : Nat))), (30, .agg #[.slice q66 m66 cq66, .int .i64 ((runV lp x14).2.1), .bool ((runV lp x14).2.2.1), .int .i64 ((runV lp x14).2.2.2)]), (31, .agg #[.int .i64 x14.kind, .int .i64 x14.a, .int .i64 x14.b, .int .i64 x14.vcpu, .bool x14.on])]) (fun ⟨Y66, cq66, m66, q66⟩ => bx (γ23 0) (#[.slice q22 m22 cq22]) 24 :: bx (γ15 0) (#[.int .i64 x14.kind, .int .i64 x14.a, .int .i64 x14.b, .int .i64 x14.vcpu, .bool x14.on]) 51 :: bx (γ6 0) (#[.slice qp mp cp]) 24 :: bx (γ1 0) (#[.slice p n cap]) 24 :: (Y66 ++ (Y22 ++ (Yp ++ [])))) ?_ (fun hmx43 => ?_)
    ·
     rintro ⟨Y66, cq66, m66, q66⟩ hO66
     refine any_fork [4, 7, 8] (by kernel_rfl) (by simp) (each_cons _ rfl ?_ (each_cons _ rfl ?_ (each_cons _ rfl ?_ (each_nil))))
     ·
      refine qo0 1 [(4, .go (owns 0 0 1))] [5, 8, 17, 18, 19, 30, 31] [(32, .agg #[.slice q22 m22 cq22])] ?_
      refine od_ ?_
      exact wk (hmx62 (Y66, cq66, m66, q66) hO66) [5, 8, 17, 18, 19, 30, 31, 32] [[_], [_], [_], [_], _, _, _] [0, 1, 2, 3, 4, 5, 6] rfl rfl
     ·
      refine mo0 1 [] [5, 8, 17, 18, 19, 30, 31] (fun γ166 => [(9, .pointer (some ⟨γ166 0, 0, none⟩))]) (fun γ166 L => bx (γ166 0) (#[.slice none 0 0, .int .i64 0, .bool false, .int .i64 0]) 53 :: L) (fun γ166 => ?_)
      refine od_ ?_
      exact wk (hmx63 (Y66, cq66, m66, q66, γ166) hO66) [5, 8, 9, 17, 18, 19, 30, 31] [[_], [_], [_], [_], [_], _, _, _] [0, 1, 2, 3, 4, 5, 6, 7] rfl rfl
     ·
      refine mo0 1 [] [5, 8, 17, 18, 19, 30, 31] (fun γ186 => [(10, .pointer (some ⟨γ186 0, 0, none⟩))]) (fun γ186 L => bx (γ186 0) (#[.slice none 0 0, .int .i64 0, .bool false, .int .i64 0]) 53 :: L) (fun γ186 => ?_)
      refine od_ ?_
      exact wk (hmx64 (Y66, cq66, m66, q66, γ186) hO66) [5, 8, 10, 17, 18, 19, 30, 31] [[_], [_], [_], [_], [_], _, _, _] [0, 1, 2, 3, 4, 5, 6, 7] rfl rfl
    refine any_cutX (V := (Nat → Nat) × (Nat → Nat)) (fun ⟨γ166, γ186⟩ => True) 8 #[false, false, false, false, true, false, false, true, true, false, false] (fun ⟨γ166, γ186⟩ => [(5, .pointer (some ⟨γ6 0, 0, none⟩)), (7, .pointer (some ⟨γ15 0, 0, none⟩)), (8, .pointer (some ⟨γ23 0, 0, none⟩)), (9, .pointer (some ⟨γ166 0, 0, none⟩)), (10, .pointer (some ⟨γ186 0, 0, none⟩)), (17, .slice (some ⟨b12, o12, none⟩) m cap2), (18, .int .i64 ((m : Nat))), (19, .int .i64 ((j : Nat))), (32, .agg #[.slice q22 m22 cq22])]) (fun ⟨γ166, γ186⟩ => bx (γ186 0) (#[.slice none 0 0, .int .i64 0, .bool false, .int .i64 0]) 53 :: bx (γ166 0) (#[.slice none 0 0, .int .i64 0, .bool false, .int .i64 0]) 53 :: bx (γ23 0) (#[.slice q22 m22 cq22]) 24 :: bx (γ15 0) (#[.int .i64 x14.kind, .int .i64 x14.a, .int .i64 x14.b, .int .i64 x14.vcpu, .bool x14.on]) 51 :: bx (γ6 0) (#[.slice qp mp cp]) 24 :: bx (γ1 0) (#[.slice p n cap]) 24 :: (Y22 ++ (Yp ++ []))) ?_ (fun hmx42 => ?_)
    ·
     rintro ⟨γ166, γ186⟩ _
     refine any_fork [0, 1, 3] (by kernel_rfl) (by simp) (each_cons _ rfl ?_ (each_cons _ rfl ?_ (each_cons _ rfl ?_ (each_nil))))
     ·
      refine qo0 1 [(0, .go (owns 3 0 5))] [5, 7, 8, 9, 10, 17, 18, 19, 32] [(28, .agg #[.int .i64 x14.kind, .int .i64 x14.a, .int .i64 x14.b, .int .i64 x14.vcpu, .bool x14.on])] ?_
      refine od_ ?_
      exact wk (hmx56 (γ166, γ186) trivial) [5, 7, 8, 9, 10, 17, 18, 19, 28, 32] [[_], [_], [_], [_], [_], [_], _, _] [0, 1, 2, 3, 4, 5, 6, 7] rfl rfl
     ·
      refine qo0 1 [(1, .go (owns 4 0 1))] [5, 7, 8, 9, 10, 17, 18, 19, 32] [(29, .agg #[.slice qp mp cp])] ?_
      refine od_ ?_
      exact wk (hmx60 (γ166, γ186) trivial) [5, 7, 8, 9, 10, 17, 18, 19, 29, 32] [[_], [_], [_], [_], [_], [_], _, _] [0, 1, 2, 3, 4, 5, 6, 7] rfl rfl
     ·
      refine qo0 1 [(3, .go (owns 3 0 5))] [5, 7, 8, 9, 10, 17, 18, 19, 32] [(31, .agg #[.int .i64 x14.kind, .int .i64 x14.a, .int .i64 x14.b, .int .i64 x14.vcpu, .bool x14.on])] ?_
      refine od_ ?_
      exact wk (hmx61 (γ166, γ186) trivial) [5, 7, 8, 9, 10, 17, 18, 19, 31, 32] [[_], [_], [_], [_], [_], [_], _, _] [0, 1, 2, 3, 4, 5, 6, 7] rfl rfl
    refine any_cutX (V := (Nat → Nat) × (Nat → Nat)) (fun ⟨γ166, γ186⟩ => True) 8 #[false, false, false, true, false, false, false, true, true, false, false] (fun ⟨γ166, γ186⟩ => [(5, .pointer (some ⟨γ6 0, 0, none⟩)), (7, .pointer (some ⟨γ15 0, 0, none⟩)), (8, .pointer (some ⟨γ23 0, 0, none⟩)), (9, .pointer (some ⟨γ166 0, 0, none⟩)), (10, .pointer (some ⟨γ186 0, 0, none⟩)), (17, .slice (some ⟨b12, o12, none⟩) m cap2), (18, .int .i64 ((m : Nat))), (19, .int .i64 ((j : Nat))), (31, .agg #[.int .i64 x14.kind, .int .i64 x14.a, .int .i64 x14.b, .int .i64 x14.vcpu, .bool x14.on])]) (fun ⟨γ166, γ186⟩ => bx (γ186 0) (#[.slice none 0 0, .int .i64 0, .bool false, .int .i64 0]) 53 :: bx (γ166 0) (#[.slice none 0 0, .int .i64 0, .bool false, .int .i64 0]) 53 :: bx (γ23 0) (#[.slice q22 m22 cq22]) 24 :: bx (γ15 0) (#[.int .i64 x14.kind, .int .i64 x14.a, .int .i64 x14.b, .int .i64 x14.vcpu, .bool x14.on]) 51 :: bx (γ6 0) (#[.slice qp mp cp]) 24 :: bx (γ1 0) (#[.slice p n cap]) 24 :: (Y22 ++ (Yp ++ []))) ?_ (fun hmx41 => ?_)
    ·
     rintro ⟨γ166, γ186⟩ _
     refine any_fork [0, 1, 4] (by kernel_rfl) (by simp) (each_cons _ rfl ?_ (each_cons _ rfl ?_ (each_cons _ rfl ?_ (each_nil))))
     ·
      refine qo0 1 [(0, .go (owns 3 0 5))] [5, 8, 9, 10, 17, 18, 19, 31] [(28, .agg #[.int .i64 x14.kind, .int .i64 x14.a, .int .i64 x14.b, .int .i64 x14.vcpu, .bool x14.on])] ?_
      refine od_ ?_
      exact wk (hmx55 (γ166, γ186) trivial) [5, 8, 9, 10, 17, 18, 19, 28, 31] [[_], [_], [_], [_], [_], [_], _, _] [0, 1, 2, 3, 4, 5, 6, 7] rfl rfl
     ·
      refine qo0 1 [(1, .go (owns 4 0 1))] [5, 7, 8, 9, 10, 17, 18, 19, 31] [(29, .agg #[.slice qp mp cp])] ?_
      refine od_ ?_
      exact wk (hmx59 (γ166, γ186) trivial) [5, 7, 8, 9, 10, 17, 18, 19, 29, 31] [[_], [_], [_], [_], [_], [_], _, _] [0, 1, 2, 3, 4, 5, 6, 7] rfl rfl
     ·
      refine qo0 1 [(4, .go (owns 2 0 1))] [5, 7, 8, 9, 10, 17, 18, 19, 31] [(32, .agg #[.slice q22 m22 cq22])] ?_
      refine od_ ?_
      exact wk (hmx61 (γ166, γ186) trivial) [5, 7, 8, 9, 10, 17, 18, 19, 31, 32] [[_], [_], [_], [_], [_], [_], _, _] [0, 1, 2, 3, 4, 5, 6, 7] rfl rfl
    refine any_cutX (V := (Nat → Nat)) (fun γ186 => True) 8 #[false, false, false, true, true, false, false, false, true, false, false] (fun γ186 => [(5, .pointer (some ⟨γ6 0, 0, none⟩)), (7, .pointer (some ⟨γ15 0, 0, none⟩)), (8, .pointer (some ⟨γ23 0, 0, none⟩)), (10, .pointer (some ⟨γ186 0, 0, none⟩)), (17, .slice (some ⟨b12, o12, none⟩) m cap2), (18, .int .i64 ((m : Nat))), (19, .int .i64 ((j : Nat))), (31, .agg #[.int .i64 x14.kind, .int .i64 x14.a, .int .i64 x14.b, .int .i64 x14.vcpu, .bool x14.on]), (32, .agg #[.slice q22 m22 cq22])]) (fun γ186 => bx (γ186 0) (#[.slice none 0 0, .int .i64 0, .bool false, .int .i64 0]) 53 :: bx (γ23 0) (#[.slice q22 m22 cq22]) 24 :: bx (γ15 0) (#[.int .i64 x14.kind, .int .i64 x14.a, .int .i64 x14.b, .int .i64 x14.vcpu, .bool x14.on]) 51 :: bx (γ6 0) (#[.slice qp mp cp]) 24 :: bx (γ1 0) (#[.slice p n cap]) 24 :: (Y22 ++ (Yp ++ []))) ?_ (fun hmx40 => ?_)
    ·
     rintro γ186 _
     refine any_fork [0, 1, 7] (by kernel_rfl) (by simp) (each_cons _ rfl ?_ (each_cons _ rfl ?_ (each_cons _ rfl ?_ (each_nil))))
     ·
      refine qo0 1 [(0, .go (owns 2 0 5))] [5, 8, 10, 17, 18, 19, 31, 32] [(28, .agg #[.int .i64 x14.kind, .int .i64 x14.a, .int .i64 x14.b, .int .i64 x14.vcpu, .bool x14.on])] ?_
      refine od_ ?_
      exact wk (hmx54 γ186 trivial) [5, 8, 10, 17, 18, 19, 28, 31, 32] [[_], [_], [_], [_], [_], _, _] [0, 1, 2, 3, 4, 5, 6] rfl rfl
     ·
      refine qo0 1 [(1, .go (owns 3 0 1))] [5, 7, 8, 10, 17, 18, 19, 31, 32] [(29, .agg #[.slice qp mp cp])] ?_
      refine od_ ?_
      exact wk (hmx58 γ186 trivial) [5, 7, 8, 10, 17, 18, 19, 29, 31, 32] [[_], [_], [_], [_], [_], _, _] [0, 1, 2, 3, 4, 5, 6] rfl rfl
     ·
      refine mo0 1 [] [5, 7, 8, 10, 17, 18, 19, 31, 32] (fun γ166 => [(9, .pointer (some ⟨γ166 0, 0, none⟩))]) (fun γ166 L => bx (γ166 0) (#[.slice none 0 0, .int .i64 0, .bool false, .int .i64 0]) 53 :: L) (fun γ166 => ?_)
      refine od_ ?_
      exact wk (hmx61 (γ166, γ186) trivial) [5, 7, 8, 9, 10, 17, 18, 19, 31, 32] [[_], [_], [_], [_], [_], [_], _, _] [1, 0, 2, 3, 4, 5, 6, 7] rfl rfl
    refine any_cutX (V := (Nat → Nat)) (fun γ166 => True) 8 #[false, false, false, true, true, false, false, true, false, false, false] (fun γ166 => [(5, .pointer (some ⟨γ6 0, 0, none⟩)), (7, .pointer (some ⟨γ15 0, 0, none⟩)), (8, .pointer (some ⟨γ23 0, 0, none⟩)), (9, .pointer (some ⟨γ166 0, 0, none⟩)), (17, .slice (some ⟨b12, o12, none⟩) m cap2), (18, .int .i64 ((m : Nat))), (19, .int .i64 ((j : Nat))), (31, .agg #[.int .i64 x14.kind, .int .i64 x14.a, .int .i64 x14.b, .int .i64 x14.vcpu, .bool x14.on]), (32, .agg #[.slice q22 m22 cq22])]) (fun γ166 => bx (γ166 0) (#[.slice none 0 0, .int .i64 0, .bool false, .int .i64 0]) 53 :: bx (γ23 0) (#[.slice q22 m22 cq22]) 24 :: bx (γ15 0) (#[.int .i64 x14.kind, .int .i64 x14.a, .int .i64 x14.b, .int .i64 x14.vcpu, .bool x14.on]) 51 :: bx (γ6 0) (#[.slice qp mp cp]) 24 :: bx (γ1 0) (#[.slice p n cap]) 24 :: (Y22 ++ (Yp ++ []))) ?_ (fun hmx39 => ?_)
    ·
     rintro γ166 _
     refine any_fork [0, 1, 8] (by kernel_rfl) (by simp) (each_cons _ rfl ?_ (each_cons _ rfl ?_ (each_cons _ rfl ?_ (each_nil))))
     ·
      refine qo0 1 [(0, .go (owns 2 0 5))] [5, 8, 9, 17, 18, 19, 31, 32] [(28, .agg #[.int .i64 x14.kind, .int .i64 x14.a, .int .i64 x14.b, .int .i64 x14.vcpu, .bool x14.on])] ?_
      refine od_ ?_
      exact wk (hmx53 γ166 trivial) [5, 8, 9, 17, 18, 19, 28, 31, 32] [[_], [_], [_], [_], [_], _, _] [0, 1, 2, 3, 4, 5, 6] rfl rfl
     ·
      refine qo0 1 [(1, .go (owns 3 0 1))] [5, 7, 8, 9, 17, 18, 19, 31, 32] [(29, .agg #[.slice qp mp cp])] ?_
      refine od_ ?_
      exact wk (hmx57 γ166 trivial) [5, 7, 8, 9, 17, 18, 19, 29, 31, 32] [[_], [_], [_], [_], [_], _, _] [0, 1, 2, 3, 4, 5, 6] rfl rfl
     ·
      refine mo0 1 [] [5, 7, 8, 9, 17, 18, 19, 31, 32] (fun γ186 => [(10, .pointer (some ⟨γ186 0, 0, none⟩))]) (fun γ186 L => bx (γ186 0) (#[.slice none 0 0, .int .i64 0, .bool false, .int .i64 0]) 53 :: L) (fun γ186 => ?_)
      refine od_ ?_
      exact wk (hmx61 (γ166, γ186) trivial) [5, 7, 8, 9, 10, 17, 18, 19, 31, 32] [[_], [_], [_], [_], [_], [_], _, _] [0, 1, 2, 3, 4, 5, 6, 7] rfl rfl
    refine any_cutX (V := (Nat → Nat) × (Nat → Nat)) (fun ⟨γ166, γ186⟩ => True) 8 #[false, true, false, false, false, false, false, true, true, false, false] (fun ⟨γ166, γ186⟩ => [(5, .pointer (some ⟨γ6 0, 0, none⟩)), (7, .pointer (some ⟨γ15 0, 0, none⟩)), (8, .pointer (some ⟨γ23 0, 0, none⟩)), (9, .pointer (some ⟨γ166 0, 0, none⟩)), (10, .pointer (some ⟨γ186 0, 0, none⟩)), (17, .slice (some ⟨b12, o12, none⟩) m cap2), (18, .int .i64 ((m : Nat))), (19, .int .i64 ((j : Nat))), (29, .agg #[.slice qp mp cp])]) (fun ⟨γ166, γ186⟩ => bx (γ186 0) (#[.slice none 0 0, .int .i64 0, .bool false, .int .i64 0]) 53 :: bx (γ166 0) (#[.slice none 0 0, .int .i64 0, .bool false, .int .i64 0]) 53 :: bx (γ23 0) (#[.slice q22 m22 cq22]) 24 :: bx (γ15 0) (#[.int .i64 x14.kind, .int .i64 x14.a, .int .i64 x14.b, .int .i64 x14.vcpu, .bool x14.on]) 51 :: bx (γ6 0) (#[.slice qp mp cp]) 24 :: bx (γ1 0) (#[.slice p n cap]) 24 :: (Y22 ++ (Yp ++ []))) ?_ (fun hmx38 => ?_)
    ·
     rintro ⟨γ166, γ186⟩ _
     refine any_fork [0, 3, 4] (by kernel_rfl) (by simp) (each_cons _ rfl ?_ (each_cons _ rfl ?_ (each_cons _ rfl ?_ (each_nil))))
     ·
      refine qo0 1 [(0, .go (owns 3 0 5))] [5, 7, 8, 9, 10, 17, 18, 19, 29] [(28, .agg #[.int .i64 x14.kind, .int .i64 x14.a, .int .i64 x14.b, .int .i64 x14.vcpu, .bool x14.on])] ?_
      refine od_ ?_
      exact wk (hmx52 (γ166, γ186) trivial) [5, 7, 8, 9, 10, 17, 18, 19, 28, 29] [[_], [_], [_], [_], [_], [_], _, _] [0, 1, 2, 3, 4, 5, 6, 7] rfl rfl
     ·
      refine qo0 1 [(3, .go (owns 3 0 5))] [5, 7, 8, 9, 10, 17, 18, 19, 29] [(31, .agg #[.int .i64 x14.kind, .int .i64 x14.a, .int .i64 x14.b, .int .i64 x14.vcpu, .bool x14.on])] ?_
      refine od_ ?_
      exact wk (hmx59 (γ166, γ186) trivial) [5, 7, 8, 9, 10, 17, 18, 19, 29, 31] [[_], [_], [_], [_], [_], [_], _, _] [0, 1, 2, 3, 4, 5, 6, 7] rfl rfl
     ·
      refine qo0 1 [(4, .go (owns 2 0 1))] [5, 7, 8, 9, 10, 17, 18, 19, 29] [(32, .agg #[.slice q22 m22 cq22])] ?_
      refine od_ ?_
      exact wk (hmx60 (γ166, γ186) trivial) [5, 7, 8, 9, 10, 17, 18, 19, 29, 32] [[_], [_], [_], [_], [_], [_], _, _] [0, 1, 2, 3, 4, 5, 6, 7] rfl rfl
    refine any_cutX (V := (Nat → Nat)) (fun γ186 => True) 8 #[false, true, false, false, true, false, false, false, true, false, false] (fun γ186 => [(5, .pointer (some ⟨γ6 0, 0, none⟩)), (7, .pointer (some ⟨γ15 0, 0, none⟩)), (8, .pointer (some ⟨γ23 0, 0, none⟩)), (10, .pointer (some ⟨γ186 0, 0, none⟩)), (17, .slice (some ⟨b12, o12, none⟩) m cap2), (18, .int .i64 ((m : Nat))), (19, .int .i64 ((j : Nat))), (29, .agg #[.slice qp mp cp]), (32, .agg #[.slice q22 m22 cq22])]) (fun γ186 => bx (γ186 0) (#[.slice none 0 0, .int .i64 0, .bool false, .int .i64 0]) 53 :: bx (γ23 0) (#[.slice q22 m22 cq22]) 24 :: bx (γ15 0) (#[.int .i64 x14.kind, .int .i64 x14.a, .int .i64 x14.b, .int .i64 x14.vcpu, .bool x14.on]) 51 :: bx (γ6 0) (#[.slice qp mp cp]) 24 :: bx (γ1 0) (#[.slice p n cap]) 24 :: (Y22 ++ (Yp ++ []))) ?_ (fun hmx37 => ?_)
    ·
     rintro γ186 _
     refine any_fork [0, 3, 7] (by kernel_rfl) (by simp) (each_cons _ rfl ?_ (each_cons _ rfl ?_ (each_cons _ rfl ?_ (each_nil))))
     ·
      refine qo0 1 [(0, .go (owns 2 0 5))] [5, 7, 8, 10, 17, 18, 19, 29, 32] [(28, .agg #[.int .i64 x14.kind, .int .i64 x14.a, .int .i64 x14.b, .int .i64 x14.vcpu, .bool x14.on])] ?_
      refine od_ ?_
      exact wk (hmx51 γ186 trivial) [5, 7, 8, 10, 17, 18, 19, 28, 29, 32] [[_], [_], [_], [_], [_], _, _] [0, 1, 2, 3, 4, 5, 6] rfl rfl
     ·
      refine qo0 1 [(3, .go (owns 2 0 5))] [5, 7, 8, 10, 17, 18, 19, 29, 32] [(31, .agg #[.int .i64 x14.kind, .int .i64 x14.a, .int .i64 x14.b, .int .i64 x14.vcpu, .bool x14.on])] ?_
      refine od_ ?_
      exact wk (hmx58 γ186 trivial) [5, 7, 8, 10, 17, 18, 19, 29, 31, 32] [[_], [_], [_], [_], [_], _, _] [0, 1, 2, 3, 4, 5, 6] rfl rfl
     ·
      refine mo0 1 [] [5, 7, 8, 10, 17, 18, 19, 29, 32] (fun γ166 => [(9, .pointer (some ⟨γ166 0, 0, none⟩))]) (fun γ166 L => bx (γ166 0) (#[.slice none 0 0, .int .i64 0, .bool false, .int .i64 0]) 53 :: L) (fun γ166 => ?_)
      refine od_ ?_
      exact wk (hmx60 (γ166, γ186) trivial) [5, 7, 8, 9, 10, 17, 18, 19, 29, 32] [[_], [_], [_], [_], [_], [_], _, _] [1, 0, 2, 3, 4, 5, 6, 7] rfl rfl
    refine any_cutX (V := (Nat → Nat)) (fun γ166 => True) 8 #[false, true, false, false, true, false, false, true, false, false, false] (fun γ166 => [(5, .pointer (some ⟨γ6 0, 0, none⟩)), (7, .pointer (some ⟨γ15 0, 0, none⟩)), (8, .pointer (some ⟨γ23 0, 0, none⟩)), (9, .pointer (some ⟨γ166 0, 0, none⟩)), (17, .slice (some ⟨b12, o12, none⟩) m cap2), (18, .int .i64 ((m : Nat))), (19, .int .i64 ((j : Nat))), (29, .agg #[.slice qp mp cp]), (32, .agg #[.slice q22 m22 cq22])]) (fun γ166 => bx (γ166 0) (#[.slice none 0 0, .int .i64 0, .bool false, .int .i64 0]) 53 :: bx (γ23 0) (#[.slice q22 m22 cq22]) 24 :: bx (γ15 0) (#[.int .i64 x14.kind, .int .i64 x14.a, .int .i64 x14.b, .int .i64 x14.vcpu, .bool x14.on]) 51 :: bx (γ6 0) (#[.slice qp mp cp]) 24 :: bx (γ1 0) (#[.slice p n cap]) 24 :: (Y22 ++ (Yp ++ []))) ?_ (fun hmx36 => ?_)
    ·
     rintro γ166 _
     refine any_fork [0, 3, 8] (by kernel_rfl) (by simp) (each_cons _ rfl ?_ (each_cons _ rfl ?_ (each_cons _ rfl ?_ (each_nil))))
     ·
      refine qo0 1 [(0, .go (owns 2 0 5))] [5, 7, 8, 9, 17, 18, 19, 29, 32] [(28, .agg #[.int .i64 x14.kind, .int .i64 x14.a, .int .i64 x14.b, .int .i64 x14.vcpu, .bool x14.on])] ?_
      refine od_ ?_
      exact wk (hmx50 γ166 trivial) [5, 7, 8, 9, 17, 18, 19, 28, 29, 32] [[_], [_], [_], [_], [_], _, _] [0, 1, 2, 3, 4, 5, 6] rfl rfl
     ·
      refine qo0 1 [(3, .go (owns 2 0 5))] [5, 7, 8, 9, 17, 18, 19, 29, 32] [(31, .agg #[.int .i64 x14.kind, .int .i64 x14.a, .int .i64 x14.b, .int .i64 x14.vcpu, .bool x14.on])] ?_
      refine od_ ?_
      exact wk (hmx57 γ166 trivial) [5, 7, 8, 9, 17, 18, 19, 29, 31, 32] [[_], [_], [_], [_], [_], _, _] [0, 1, 2, 3, 4, 5, 6] rfl rfl
     ·
      refine mo0 1 [] [5, 7, 8, 9, 17, 18, 19, 29, 32] (fun γ186 => [(10, .pointer (some ⟨γ186 0, 0, none⟩))]) (fun γ186 L => bx (γ186 0) (#[.slice none 0 0, .int .i64 0, .bool false, .int .i64 0]) 53 :: L) (fun γ186 => ?_)
      refine od_ ?_
      exact wk (hmx60 (γ166, γ186) trivial) [5, 7, 8, 9, 10, 17, 18, 19, 29, 32] [[_], [_], [_], [_], [_], [_], _, _] [0, 1, 2, 3, 4, 5, 6, 7] rfl rfl
    refine any_cutX (V := (Nat → Nat)) (fun γ186 => True) 8 #[false, true, false, true, false, false, false, false, true, false, false] (fun γ186 => [(5, .pointer (some ⟨γ6 0, 0, none⟩)), (7, .pointer (some ⟨γ15 0, 0, none⟩)), (8, .pointer (some ⟨γ23 0, 0, none⟩)), (10, .pointer (some ⟨γ186 0, 0, none⟩)), (17, .slice (some ⟨b12, o12, none⟩) m cap2), (18, .int .i64 ((m : Nat))), (19, .int .i64 ((j : Nat))), (29, .agg #[.slice qp mp cp]), (31, .agg #[.int .i64 x14.kind, .int .i64 x14.a, .int .i64 x14.b, .int .i64 x14.vcpu, .bool x14.on])]) (fun γ186 => bx (γ186 0) (#[.slice none 0 0, .int .i64 0, .bool false, .int .i64 0]) 53 :: bx (γ23 0) (#[.slice q22 m22 cq22]) 24 :: bx (γ15 0) (#[.int .i64 x14.kind, .int .i64 x14.a, .int .i64 x14.b, .int .i64 x14.vcpu, .bool x14.on]) 51 :: bx (γ6 0) (#[.slice qp mp cp]) 24 :: bx (γ1 0) (#[.slice p n cap]) 24 :: (Y22 ++ (Yp ++ []))) ?_ (fun hmx35 => ?_)
    ·
     rintro γ186 _
     refine any_fork [0, 4, 7] (by kernel_rfl) (by simp) (each_cons _ rfl ?_ (each_cons _ rfl ?_ (each_cons _ rfl ?_ (each_nil))))
     ·
      refine qo0 1 [(0, .go (owns 2 0 5))] [5, 8, 10, 17, 18, 19, 29, 31] [(28, .agg #[.int .i64 x14.kind, .int .i64 x14.a, .int .i64 x14.b, .int .i64 x14.vcpu, .bool x14.on])] ?_
      refine od_ ?_
      exact wk (hmx49 γ186 trivial) [5, 8, 10, 17, 18, 19, 28, 29, 31] [[_], [_], [_], [_], [_], _, _] [0, 1, 2, 3, 4, 5, 6] rfl rfl
     ·
      refine qo0 1 [(4, .go (owns 1 0 1))] [5, 7, 8, 10, 17, 18, 19, 29, 31] [(32, .agg #[.slice q22 m22 cq22])] ?_
      refine od_ ?_
      exact wk (hmx58 γ186 trivial) [5, 7, 8, 10, 17, 18, 19, 29, 31, 32] [[_], [_], [_], [_], [_], _, _] [0, 1, 2, 3, 4, 5, 6] rfl rfl
     ·
      refine mo0 1 [] [5, 7, 8, 10, 17, 18, 19, 29, 31] (fun γ166 => [(9, .pointer (some ⟨γ166 0, 0, none⟩))]) (fun γ166 L => bx (γ166 0) (#[.slice none 0 0, .int .i64 0, .bool false, .int .i64 0]) 53 :: L) (fun γ166 => ?_)
      refine od_ ?_
      exact wk (hmx59 (γ166, γ186) trivial) [5, 7, 8, 9, 10, 17, 18, 19, 29, 31] [[_], [_], [_], [_], [_], [_], _, _] [1, 0, 2, 3, 4, 5, 6, 7] rfl rfl
    refine any_cutX (V := (Nat → Nat)) (fun γ166 => True) 8 #[false, true, false, true, false, false, false, true, false, false, false] (fun γ166 => [(5, .pointer (some ⟨γ6 0, 0, none⟩)), (7, .pointer (some ⟨γ15 0, 0, none⟩)), (8, .pointer (some ⟨γ23 0, 0, none⟩)), (9, .pointer (some ⟨γ166 0, 0, none⟩)), (17, .slice (some ⟨b12, o12, none⟩) m cap2), (18, .int .i64 ((m : Nat))), (19, .int .i64 ((j : Nat))), (29, .agg #[.slice qp mp cp]), (31, .agg #[.int .i64 x14.kind, .int .i64 x14.a, .int .i64 x14.b, .int .i64 x14.vcpu, .bool x14.on])]) (fun γ166 => bx (γ166 0) (#[.slice none 0 0, .int .i64 0, .bool false, .int .i64 0]) 53 :: bx (γ23 0) (#[.slice q22 m22 cq22]) 24 :: bx (γ15 0) (#[.int .i64 x14.kind, .int .i64 x14.a, .int .i64 x14.b, .int .i64 x14.vcpu, .bool x14.on]) 51 :: bx (γ6 0) (#[.slice qp mp cp]) 24 :: bx (γ1 0) (#[.slice p n cap]) 24 :: (Y22 ++ (Yp ++ []))) ?_ (fun hmx34 => ?_)
    ·
     rintro γ166 _
     refine any_fork [0, 4, 8] (by kernel_rfl) (by simp) (each_cons _ rfl ?_ (each_cons _ rfl ?_ (each_cons _ rfl ?_ (each_nil))))
     ·
      refine qo0 1 [(0, .go (owns 2 0 5))] [5, 8, 9, 17, 18, 19, 29, 31] [(28, .agg #[.int .i64 x14.kind, .int .i64 x14.a, .int .i64 x14.b, .int .i64 x14.vcpu, .bool x14.on])] ?_
      refine od_ ?_
      exact wk (hmx48 γ166 trivial) [5, 8, 9, 17, 18, 19, 28, 29, 31] [[_], [_], [_], [_], [_], _, _] [0, 1, 2, 3, 4, 5, 6] rfl rfl
     ·
      refine qo0 1 [(4, .go (owns 1 0 1))] [5, 7, 8, 9, 17, 18, 19, 29, 31] [(32, .agg #[.slice q22 m22 cq22])] ?_
      refine od_ ?_
      exact wk (hmx57 γ166 trivial) [5, 7, 8, 9, 17, 18, 19, 29, 31, 32] [[_], [_], [_], [_], [_], _, _] [0, 1, 2, 3, 4, 5, 6] rfl rfl
     ·
      refine mo0 1 [] [5, 7, 8, 9, 17, 18, 19, 29, 31] (fun γ186 => [(10, .pointer (some ⟨γ186 0, 0, none⟩))]) (fun γ186 L => bx (γ186 0) (#[.slice none 0 0, .int .i64 0, .bool false, .int .i64 0]) 53 :: L) (fun γ186 => ?_)
      refine od_ ?_
      exact wk (hmx59 (γ166, γ186) trivial) [5, 7, 8, 9, 10, 17, 18, 19, 29, 31] [[_], [_], [_], [_], [_], [_], _, _] [0, 1, 2, 3, 4, 5, 6, 7] rfl rfl
    refine any_cutX (V := Unit) (fun _ => True) 8 #[false, true, false, true, true, false, false, false, false, false, false] (fun _ => [(5, .pointer (some ⟨γ6 0, 0, none⟩)), (7, .pointer (some ⟨γ15 0, 0, none⟩)), (8, .pointer (some ⟨γ23 0, 0, none⟩)), (17, .slice (some ⟨b12, o12, none⟩) m cap2), (18, .int .i64 ((m : Nat))), (19, .int .i64 ((j : Nat))), (29, .agg #[.slice qp mp cp]), (31, .agg #[.int .i64 x14.kind, .int .i64 x14.a, .int .i64 x14.b, .int .i64 x14.vcpu, .bool x14.on]), (32, .agg #[.slice q22 m22 cq22])]) (fun _ => bx (γ23 0) (#[.slice q22 m22 cq22]) 24 :: bx (γ15 0) (#[.int .i64 x14.kind, .int .i64 x14.a, .int .i64 x14.b, .int .i64 x14.vcpu, .bool x14.on]) 51 :: bx (γ6 0) (#[.slice qp mp cp]) 24 :: bx (γ1 0) (#[.slice p n cap]) 24 :: (Y22 ++ (Yp ++ []))) ?_ (fun hmx33 => ?_)
    ·
     rintro _ _
     refine any_fork [0, 7, 8] (by kernel_rfl) (by simp) (each_cons _ rfl ?_ (each_cons _ rfl ?_ (each_cons _ rfl ?_ (each_nil))))
     ·
      refine qo0 1 [(0, .go (owns 1 0 5))] [5, 8, 17, 18, 19, 29, 31, 32] [(28, .agg #[.int .i64 x14.kind, .int .i64 x14.a, .int .i64 x14.b, .int .i64 x14.vcpu, .bool x14.on])] ?_
      refine od_ ?_
      exact wk (hmx47 () trivial) [5, 8, 17, 18, 19, 28, 29, 31, 32] [[_], [_], [_], [_], _, _] [0, 1, 2, 3, 4, 5] rfl rfl
     ·
      refine mo0 1 [] [5, 7, 8, 17, 18, 19, 29, 31, 32] (fun γ166 => [(9, .pointer (some ⟨γ166 0, 0, none⟩))]) (fun γ166 L => bx (γ166 0) (#[.slice none 0 0, .int .i64 0, .bool false, .int .i64 0]) 53 :: L) (fun γ166 => ?_)
      refine od_ ?_
      exact wk (hmx57 γ166 trivial) [5, 7, 8, 9, 17, 18, 19, 29, 31, 32] [[_], [_], [_], [_], [_], _, _] [0, 1, 2, 3, 4, 5, 6] rfl rfl
     ·
      refine mo0 1 [] [5, 7, 8, 17, 18, 19, 29, 31, 32] (fun γ186 => [(10, .pointer (some ⟨γ186 0, 0, none⟩))]) (fun γ186 L => bx (γ186 0) (#[.slice none 0 0, .int .i64 0, .bool false, .int .i64 0]) 53 :: L) (fun γ186 => ?_)
      refine od_ ?_
      exact wk (hmx58 γ186 trivial) [5, 7, 8, 10, 17, 18, 19, 29, 31, 32] [[_], [_], [_], [_], [_], _, _] [0, 1, 2, 3, 4, 5, 6] rfl rfl
    refine any_cutX (V := (Nat → Nat) × (Nat → Nat)) (fun ⟨γ166, γ186⟩ => True) 8 #[true, false, false, false, false, false, false, true, true, false, false] (fun ⟨γ166, γ186⟩ => [(5, .pointer (some ⟨γ6 0, 0, none⟩)), (7, .pointer (some ⟨γ15 0, 0, none⟩)), (8, .pointer (some ⟨γ23 0, 0, none⟩)), (9, .pointer (some ⟨γ166 0, 0, none⟩)), (10, .pointer (some ⟨γ186 0, 0, none⟩)), (17, .slice (some ⟨b12, o12, none⟩) m cap2), (18, .int .i64 ((m : Nat))), (19, .int .i64 ((j : Nat))), (28, .agg #[.int .i64 x14.kind, .int .i64 x14.a, .int .i64 x14.b, .int .i64 x14.vcpu, .bool x14.on])]) (fun ⟨γ166, γ186⟩ => bx (γ186 0) (#[.slice none 0 0, .int .i64 0, .bool false, .int .i64 0]) 53 :: bx (γ166 0) (#[.slice none 0 0, .int .i64 0, .bool false, .int .i64 0]) 53 :: bx (γ23 0) (#[.slice q22 m22 cq22]) 24 :: bx (γ15 0) (#[.int .i64 x14.kind, .int .i64 x14.a, .int .i64 x14.b, .int .i64 x14.vcpu, .bool x14.on]) 51 :: bx (γ6 0) (#[.slice qp mp cp]) 24 :: bx (γ1 0) (#[.slice p n cap]) 24 :: (Y22 ++ (Yp ++ []))) ?_ (fun hmx32 => ?_)
    ·
     rintro ⟨γ166, γ186⟩ _
     refine any_fork [1, 3, 4] (by kernel_rfl) (by simp) (each_cons _ rfl ?_ (each_cons _ rfl ?_ (each_cons _ rfl ?_ (each_nil))))
     ·
      refine qo0 1 [(1, .go (owns 4 0 1))] [5, 7, 8, 9, 10, 17, 18, 19, 28] [(29, .agg #[.slice qp mp cp])] ?_
      refine od_ ?_
      exact wk (hmx52 (γ166, γ186) trivial) [5, 7, 8, 9, 10, 17, 18, 19, 28, 29] [[_], [_], [_], [_], [_], [_], _, _] [0, 1, 2, 3, 4, 5, 6, 7] rfl rfl
     ·
      refine qo0 1 [(3, .go (owns 3 0 5))] [5, 8, 9, 10, 17, 18, 19, 28] [(31, .agg #[.int .i64 x14.kind, .int .i64 x14.a, .int .i64 x14.b, .int .i64 x14.vcpu, .bool x14.on])] ?_
      refine od_ ?_
      exact wk (hmx55 (γ166, γ186) trivial) [5, 8, 9, 10, 17, 18, 19, 28, 31] [[_], [_], [_], [_], [_], [_], _, _] [0, 1, 2, 3, 4, 5, 6, 7] rfl rfl
     ·
      refine qo0 1 [(4, .go (owns 2 0 1))] [5, 7, 8, 9, 10, 17, 18, 19, 28] [(32, .agg #[.slice q22 m22 cq22])] ?_
      refine od_ ?_
      exact wk (hmx56 (γ166, γ186) trivial) [5, 7, 8, 9, 10, 17, 18, 19, 28, 32] [[_], [_], [_], [_], [_], [_], _, _] [0, 1, 2, 3, 4, 5, 6, 7] rfl rfl
    refine any_cutX (V := (Nat → Nat)) (fun γ186 => True) 8 #[true, false, false, false, true, false, false, false, true, false, false] (fun γ186 => [(5, .pointer (some ⟨γ6 0, 0, none⟩)), (7, .pointer (some ⟨γ15 0, 0, none⟩)), (8, .pointer (some ⟨γ23 0, 0, none⟩)), (10, .pointer (some ⟨γ186 0, 0, none⟩)), (17, .slice (some ⟨b12, o12, none⟩) m cap2), (18, .int .i64 ((m : Nat))), (19, .int .i64 ((j : Nat))), (28, .agg #[.int .i64 x14.kind, .int .i64 x14.a, .int .i64 x14.b, .int .i64 x14.vcpu, .bool x14.on]), (32, .agg #[.slice q22 m22 cq22])]) (fun γ186 => bx (γ186 0) (#[.slice none 0 0, .int .i64 0, .bool false, .int .i64 0]) 53 :: bx (γ23 0) (#[.slice q22 m22 cq22]) 24 :: bx (γ15 0) (#[.int .i64 x14.kind, .int .i64 x14.a, .int .i64 x14.b, .int .i64 x14.vcpu, .bool x14.on]) 51 :: bx (γ6 0) (#[.slice qp mp cp]) 24 :: bx (γ1 0) (#[.slice p n cap]) 24 :: (Y22 ++ (Yp ++ []))) ?_ (fun hmx31 => ?_)
    ·
     rintro γ186 _
     refine any_fork [1, 3, 7] (by kernel_rfl) (by simp) (each_cons _ rfl ?_ (each_cons _ rfl ?_ (each_cons _ rfl ?_ (each_nil))))
     ·
      refine qo0 1 [(1, .go (owns 3 0 1))] [5, 7, 8, 10, 17, 18, 19, 28, 32] [(29, .agg #[.slice qp mp cp])] ?_
      refine od_ ?_
      exact wk (hmx51 γ186 trivial) [5, 7, 8, 10, 17, 18, 19, 28, 29, 32] [[_], [_], [_], [_], [_], _, _] [0, 1, 2, 3, 4, 5, 6] rfl rfl
     ·
      refine qo0 1 [(3, .go (owns 2 0 5))] [5, 8, 10, 17, 18, 19, 28, 32] [(31, .agg #[.int .i64 x14.kind, .int .i64 x14.a, .int .i64 x14.b, .int .i64 x14.vcpu, .bool x14.on])] ?_
      refine od_ ?_
      exact wk (hmx54 γ186 trivial) [5, 8, 10, 17, 18, 19, 28, 31, 32] [[_], [_], [_], [_], [_], _, _] [0, 1, 2, 3, 4, 5, 6] rfl rfl
     ·
      refine mo0 1 [] [5, 7, 8, 10, 17, 18, 19, 28, 32] (fun γ166 => [(9, .pointer (some ⟨γ166 0, 0, none⟩))]) (fun γ166 L => bx (γ166 0) (#[.slice none 0 0, .int .i64 0, .bool false, .int .i64 0]) 53 :: L) (fun γ166 => ?_)
      refine od_ ?_
      exact wk (hmx56 (γ166, γ186) trivial) [5, 7, 8, 9, 10, 17, 18, 19, 28, 32] [[_], [_], [_], [_], [_], [_], _, _] [1, 0, 2, 3, 4, 5, 6, 7] rfl rfl
    refine any_cutX (V := (Nat → Nat)) (fun γ166 => True) 8 #[true, false, false, false, true, false, false, true, false, false, false] (fun γ166 => [(5, .pointer (some ⟨γ6 0, 0, none⟩)), (7, .pointer (some ⟨γ15 0, 0, none⟩)), (8, .pointer (some ⟨γ23 0, 0, none⟩)), (9, .pointer (some ⟨γ166 0, 0, none⟩)), (17, .slice (some ⟨b12, o12, none⟩) m cap2), (18, .int .i64 ((m : Nat))), (19, .int .i64 ((j : Nat))), (28, .agg #[.int .i64 x14.kind, .int .i64 x14.a, .int .i64 x14.b, .int .i64 x14.vcpu, .bool x14.on]), (32, .agg #[.slice q22 m22 cq22])]) (fun γ166 => bx (γ166 0) (#[.slice none 0 0, .int .i64 0, .bool false, .int .i64 0]) 53 :: bx (γ23 0) (#[.slice q22 m22 cq22]) 24 :: bx (γ15 0) (#[.int .i64 x14.kind, .int .i64 x14.a, .int .i64 x14.b, .int .i64 x14.vcpu, .bool x14.on]) 51 :: bx (γ6 0) (#[.slice qp mp cp]) 24 :: bx (γ1 0) (#[.slice p n cap]) 24 :: (Y22 ++ (Yp ++ []))) ?_ (fun hmx30 => ?_)
    ·
     rintro γ166 _
     refine any_fork [1, 3, 8] (by kernel_rfl) (by simp) (each_cons _ rfl ?_ (each_cons _ rfl ?_ (each_cons _ rfl ?_ (each_nil))))
     ·
      refine qo0 1 [(1, .go (owns 3 0 1))] [5, 7, 8, 9, 17, 18, 19, 28, 32] [(29, .agg #[.slice qp mp cp])] ?_
      refine od_ ?_
      exact wk (hmx50 γ166 trivial) [5, 7, 8, 9, 17, 18, 19, 28, 29, 32] [[_], [_], [_], [_], [_], _, _] [0, 1, 2, 3, 4, 5, 6] rfl rfl
     ·
      refine qo0 1 [(3, .go (owns 2 0 5))] [5, 8, 9, 17, 18, 19, 28, 32] [(31, .agg #[.int .i64 x14.kind, .int .i64 x14.a, .int .i64 x14.b, .int .i64 x14.vcpu, .bool x14.on])] ?_
      refine od_ ?_
      exact wk (hmx53 γ166 trivial) [5, 8, 9, 17, 18, 19, 28, 31, 32] [[_], [_], [_], [_], [_], _, _] [0, 1, 2, 3, 4, 5, 6] rfl rfl
     ·
      refine mo0 1 [] [5, 7, 8, 9, 17, 18, 19, 28, 32] (fun γ186 => [(10, .pointer (some ⟨γ186 0, 0, none⟩))]) (fun γ186 L => bx (γ186 0) (#[.slice none 0 0, .int .i64 0, .bool false, .int .i64 0]) 53 :: L) (fun γ186 => ?_)
      refine od_ ?_
      exact wk (hmx56 (γ166, γ186) trivial) [5, 7, 8, 9, 10, 17, 18, 19, 28, 32] [[_], [_], [_], [_], [_], [_], _, _] [0, 1, 2, 3, 4, 5, 6, 7] rfl rfl
    refine any_cutX (V := (Nat → Nat)) (fun γ186 => True) 8 #[true, false, false, true, false, false, false, false, true, false, false] (fun γ186 => [(5, .pointer (some ⟨γ6 0, 0, none⟩)), (8, .pointer (some ⟨γ23 0, 0, none⟩)), (10, .pointer (some ⟨γ186 0, 0, none⟩)), (17, .slice (some ⟨b12, o12, none⟩) m cap2), (18, .int .i64 ((m : Nat))), (19, .int .i64 ((j : Nat))), (28, .agg #[.int .i64 x14.kind, .int .i64 x14.a, .int .i64 x14.b, .int .i64 x14.vcpu, .bool x14.on]), (31, .agg #[.int .i64 x14.kind, .int .i64 x14.a, .int .i64 x14.b, .int .i64 x14.vcpu, .bool x14.on])]) (fun γ186 => bx (γ186 0) (#[.slice none 0 0, .int .i64 0, .bool false, .int .i64 0]) 53 :: bx (γ23 0) (#[.slice q22 m22 cq22]) 24 :: bx (γ15 0) (#[.int .i64 x14.kind, .int .i64 x14.a, .int .i64 x14.b, .int .i64 x14.vcpu, .bool x14.on]) 51 :: bx (γ6 0) (#[.slice qp mp cp]) 24 :: bx (γ1 0) (#[.slice p n cap]) 24 :: (Y22 ++ (Yp ++ []))) ?_ (fun hmx29 => ?_)
    ·
     rintro γ186 _
     refine any_fork [1, 4, 7] (by kernel_rfl) (by simp) (each_cons _ rfl ?_ (each_cons _ rfl ?_ (each_cons _ rfl ?_ (each_nil))))
     ·
      refine qo0 1 [(1, .go (owns 3 0 1))] [5, 8, 10, 17, 18, 19, 28, 31] [(29, .agg #[.slice qp mp cp])] ?_
      refine od_ ?_
      exact wk (hmx49 γ186 trivial) [5, 8, 10, 17, 18, 19, 28, 29, 31] [[_], [_], [_], [_], [_], _, _] [0, 1, 2, 3, 4, 5, 6] rfl rfl
     ·
      refine qo0 1 [(4, .go (owns 1 0 1))] [5, 8, 10, 17, 18, 19, 28, 31] [(32, .agg #[.slice q22 m22 cq22])] ?_
      refine od_ ?_
      exact wk (hmx54 γ186 trivial) [5, 8, 10, 17, 18, 19, 28, 31, 32] [[_], [_], [_], [_], [_], _, _] [0, 1, 2, 3, 4, 5, 6] rfl rfl
     ·
      refine mo0 1 [] [5, 8, 10, 17, 18, 19, 28, 31] (fun γ166 => [(9, .pointer (some ⟨γ166 0, 0, none⟩))]) (fun γ166 L => bx (γ166 0) (#[.slice none 0 0, .int .i64 0, .bool false, .int .i64 0]) 53 :: L) (fun γ166 => ?_)
      refine od_ ?_
      exact wk (hmx55 (γ166, γ186) trivial) [5, 8, 9, 10, 17, 18, 19, 28, 31] [[_], [_], [_], [_], [_], [_], _, _] [1, 0, 2, 3, 4, 5, 6, 7] rfl rfl
    refine any_cutX (V := (Nat → Nat)) (fun γ166 => True) 8 #[true, false, false, true, false, false, false, true, false, false, false] (fun γ166 => [(5, .pointer (some ⟨γ6 0, 0, none⟩)), (8, .pointer (some ⟨γ23 0, 0, none⟩)), (9, .pointer (some ⟨γ166 0, 0, none⟩)), (17, .slice (some ⟨b12, o12, none⟩) m cap2), (18, .int .i64 ((m : Nat))), (19, .int .i64 ((j : Nat))), (28, .agg #[.int .i64 x14.kind, .int .i64 x14.a, .int .i64 x14.b, .int .i64 x14.vcpu, .bool x14.on]), (31, .agg #[.int .i64 x14.kind, .int .i64 x14.a, .int .i64 x14.b, .int .i64 x14.vcpu, .bool x14.on])]) (fun γ166 => bx (γ166 0) (#[.slice none 0 0, .int .i64 0, .bool false, .int .i64 0]) 53 :: bx (γ23 0) (#[.slice q22 m22 cq22]) 24 :: bx (γ15 0) (#[.int .i64 x14.kind, .int .i64 x14.a, .int .i64 x14.b, .int .i64 x14.vcpu, .bool x14.on]) 51 :: bx (γ6 0) (#[.slice qp mp cp]) 24 :: bx (γ1 0) (#[.slice p n cap]) 24 :: (Y22 ++ (Yp ++ []))) ?_ (fun hmx28 => ?_)
    ·
     rintro γ166 _
     refine any_fork [1, 4, 8] (by kernel_rfl) (by simp) (each_cons _ rfl ?_ (each_cons _ rfl ?_ (each_cons _ rfl ?_ (each_nil))))
     ·
      refine qo0 1 [(1, .go (owns 3 0 1))] [5, 8, 9, 17, 18, 19, 28, 31] [(29, .agg #[.slice qp mp cp])] ?_
      refine od_ ?_
      exact wk (hmx48 γ166 trivial) [5, 8, 9, 17, 18, 19, 28, 29, 31] [[_], [_], [_], [_], [_], _, _] [0, 1, 2, 3, 4, 5, 6] rfl rfl
     ·
      refine qo0 1 [(4, .go (owns 1 0 1))] [5, 8, 9, 17, 18, 19, 28, 31] [(32, .agg #[.slice q22 m22 cq22])] ?_
      refine od_ ?_
      exact wk (hmx53 γ166 trivial) [5, 8, 9, 17, 18, 19, 28, 31, 32] [[_], [_], [_], [_], [_], _, _] [0, 1, 2, 3, 4, 5, 6] rfl rfl
     ·
      refine mo0 1 [] [5, 8, 9, 17, 18, 19, 28, 31] (fun γ186 => [(10, .pointer (some ⟨γ186 0, 0, none⟩))]) (fun γ186 L => bx (γ186 0) (#[.slice none 0 0, .int .i64 0, .bool false, .int .i64 0]) 53 :: L) (fun γ186 => ?_)
      refine od_ ?_
      exact wk (hmx55 (γ166, γ186) trivial) [5, 8, 9, 10, 17, 18, 19, 28, 31] [[_], [_], [_], [_], [_], [_], _, _] [0, 1, 2, 3, 4, 5, 6, 7] rfl rfl
    refine any_cutX (V := Unit) (fun _ => True) 8 #[true, false, false, true, true, false, false, false, false, false, false] (fun _ => [(5, .pointer (some ⟨γ6 0, 0, none⟩)), (8, .pointer (some ⟨γ23 0, 0, none⟩)), (17, .slice (some ⟨b12, o12, none⟩) m cap2), (18, .int .i64 ((m : Nat))), (19, .int .i64 ((j : Nat))), (28, .agg #[.int .i64 x14.kind, .int .i64 x14.a, .int .i64 x14.b, .int .i64 x14.vcpu, .bool x14.on]), (31, .agg #[.int .i64 x14.kind, .int .i64 x14.a, .int .i64 x14.b, .int .i64 x14.vcpu, .bool x14.on]), (32, .agg #[.slice q22 m22 cq22])]) (fun _ => bx (γ23 0) (#[.slice q22 m22 cq22]) 24 :: bx (γ15 0) (#[.int .i64 x14.kind, .int .i64 x14.a, .int .i64 x14.b, .int .i64 x14.vcpu, .bool x14.on]) 51 :: bx (γ6 0) (#[.slice qp mp cp]) 24 :: bx (γ1 0) (#[.slice p n cap]) 24 :: (Y22 ++ (Yp ++ []))) ?_ (fun hmx27 => ?_)
    ·
     rintro _ _
     refine any_fork [1, 7, 8] (by kernel_rfl) (by simp) (each_cons _ rfl ?_ (each_cons _ rfl ?_ (each_cons _ rfl ?_ (each_nil))))
     ·
      refine qo0 1 [(1, .go (owns 2 0 1))] [5, 8, 17, 18, 19, 28, 31, 32] [(29, .agg #[.slice qp mp cp])] ?_
      refine od_ ?_
      exact wk (hmx47 () trivial) [5, 8, 17, 18, 19, 28, 29, 31, 32] [[_], [_], [_], [_], _, _] [0, 1, 2, 3, 4, 5] rfl rfl
     ·
      refine mo0 1 [] [5, 8, 17, 18, 19, 28, 31, 32] (fun γ166 => [(9, .pointer (some ⟨γ166 0, 0, none⟩))]) (fun γ166 L => bx (γ166 0) (#[.slice none 0 0, .int .i64 0, .bool false, .int .i64 0]) 53 :: L) (fun γ166 => ?_)
      refine od_ ?_
      exact wk (hmx53 γ166 trivial) [5, 8, 9, 17, 18, 19, 28, 31, 32] [[_], [_], [_], [_], [_], _, _] [0, 1, 2, 3, 4, 5, 6] rfl rfl
     ·
      refine mo0 1 [] [5, 8, 17, 18, 19, 28, 31, 32] (fun γ186 => [(10, .pointer (some ⟨γ186 0, 0, none⟩))]) (fun γ186 L => bx (γ186 0) (#[.slice none 0 0, .int .i64 0, .bool false, .int .i64 0]) 53 :: L) (fun γ186 => ?_)
      refine od_ ?_
      exact wk (hmx54 γ186 trivial) [5, 8, 10, 17, 18, 19, 28, 31, 32] [[_], [_], [_], [_], [_], _, _] [0, 1, 2, 3, 4, 5, 6] rfl rfl
    refine any_cutX (V := (Nat → Nat)) (fun γ186 => True) 8 #[true, true, false, false, false, false, false, false, true, false, false] (fun γ186 => [(5, .pointer (some ⟨γ6 0, 0, none⟩)), (7, .pointer (some ⟨γ15 0, 0, none⟩)), (8, .pointer (some ⟨γ23 0, 0, none⟩)), (10, .pointer (some ⟨γ186 0, 0, none⟩)), (17, .slice (some ⟨b12, o12, none⟩) m cap2), (18, .int .i64 ((m : Nat))), (19, .int .i64 ((j : Nat))), (28, .agg #[.int .i64 x14.kind, .int .i64 x14.a, .int .i64 x14.b, .int .i64 x14.vcpu, .bool x14.on]), (29, .agg #[.slice qp mp cp])]) (fun γ186 => bx (γ186 0) (#[.slice none 0 0, .int .i64 0, .bool false, .int .i64 0]) 53 :: bx (γ23 0) (#[.slice q22 m22 cq22]) 24 :: bx (γ15 0) (#[.int .i64 x14.kind, .int .i64 x14.a, .int .i64 x14.b, .int .i64 x14.vcpu, .bool x14.on]) 51 :: bx (γ6 0) (#[.slice qp mp cp]) 24 :: bx (γ1 0) (#[.slice p n cap]) 24 :: (Y22 ++ (Yp ++ []))) ?_ (fun hmx26 => ?_)
    ·
     rintro γ186 _
     refine any_fork [2, 3, 4, 7] (by kernel_rfl) (by simp) (each_cons _ rfl ?_ (each_cons _ rfl ?_ (each_cons _ rfl ?_ (each_cons _ rfl ?_ (each_nil)))))
     ·
      refine cN 5 (fun v Y_ => ∃ q_ m_ c_, v = .agg #[.slice q_ m_ c_, .int .i64 ((runV lp x14).2.1), .bool ((runV lp x14).2.2.1), .int .i64 ((runV lp x14).2.2.2)] ∧ SlO 40 Y_ q_ m_ c_ (runV lp x14).1) Try.call24 (fun w hw => (run_d x14 qp mp cp lp w (hP.atN (A := (_ :: _ :: _ :: _ :: _ :: Y22)) hw) hP.len (by omega)).mono fun e w' ⟨q_, m_, c_, Y_, he, hO, hb, hY⟩ => ⟨_, _, he, ⟨q_, m_, c_, rfl, hO⟩, hb, hY⟩) ?_
      rintro v66 Y66 ⟨q66, m66, cq66, rfl, hO66⟩
      refine od_ ?_
      exact wk (hmx46 (Y66, cq66, m66, q66, γ186) hO66) [5, 7, 8, 10, 17, 18, 19, 30] [[_], [_], [_], [_], [_], _, _, _] [0, 1, 2, 3, 4, 5, 6, 7] rfl rfl
     ·
      refine qo0 1 [(3, .go (owns 2 0 5))] [5, 8, 10, 17, 18, 19, 28, 29] [(31, .agg #[.int .i64 x14.kind, .int .i64 x14.a, .int .i64 x14.b, .int .i64 x14.vcpu, .bool x14.on])] ?_
      refine od_ ?_
      exact wk (hmx49 γ186 trivial) [5, 8, 10, 17, 18, 19, 28, 29, 31] [[_], [_], [_], [_], [_], _, _] [0, 1, 2, 3, 4, 5, 6] rfl rfl
     ·
      refine qo0 1 [(4, .go (owns 1 0 1))] [5, 7, 8, 10, 17, 18, 19, 28, 29] [(32, .agg #[.slice q22 m22 cq22])] ?_
      refine od_ ?_
      exact wk (hmx51 γ186 trivial) [5, 7, 8, 10, 17, 18, 19, 28, 29, 32] [[_], [_], [_], [_], [_], _, _] [0, 1, 2, 3, 4, 5, 6] rfl rfl
     ·
      refine mo0 1 [] [5, 7, 8, 10, 17, 18, 19, 28, 29] (fun γ166 => [(9, .pointer (some ⟨γ166 0, 0, none⟩))]) (fun γ166 L => bx (γ166 0) (#[.slice none 0 0, .int .i64 0, .bool false, .int .i64 0]) 53 :: L) (fun γ166 => ?_)
      refine od_ ?_
      exact wk (hmx52 (γ166, γ186) trivial) [5, 7, 8, 9, 10, 17, 18, 19, 28, 29] [[_], [_], [_], [_], [_], [_], _, _] [1, 0, 2, 3, 4, 5, 6, 7] rfl rfl
    refine any_cutX (V := (Nat → Nat)) (fun γ166 => True) 8 #[true, true, false, false, false, false, false, true, false, false, false] (fun γ166 => [(5, .pointer (some ⟨γ6 0, 0, none⟩)), (7, .pointer (some ⟨γ15 0, 0, none⟩)), (8, .pointer (some ⟨γ23 0, 0, none⟩)), (9, .pointer (some ⟨γ166 0, 0, none⟩)), (17, .slice (some ⟨b12, o12, none⟩) m cap2), (18, .int .i64 ((m : Nat))), (19, .int .i64 ((j : Nat))), (28, .agg #[.int .i64 x14.kind, .int .i64 x14.a, .int .i64 x14.b, .int .i64 x14.vcpu, .bool x14.on]), (29, .agg #[.slice qp mp cp])]) (fun γ166 => bx (γ166 0) (#[.slice none 0 0, .int .i64 0, .bool false, .int .i64 0]) 53 :: bx (γ23 0) (#[.slice q22 m22 cq22]) 24 :: bx (γ15 0) (#[.int .i64 x14.kind, .int .i64 x14.a, .int .i64 x14.b, .int .i64 x14.vcpu, .bool x14.on]) 51 :: bx (γ6 0) (#[.slice qp mp cp]) 24 :: bx (γ1 0) (#[.slice p n cap]) 24 :: (Y22 ++ (Yp ++ []))) ?_ (fun hmx25 => ?_)
    ·
     rintro γ166 _
     refine any_fork [2, 3, 4, 8] (by kernel_rfl) (by simp) (each_cons _ rfl ?_ (each_cons _ rfl ?_ (each_cons _ rfl ?_ (each_cons _ rfl ?_ (each_nil)))))
     ·
      refine cN 5 (fun v Y_ => ∃ q_ m_ c_, v = .agg #[.slice q_ m_ c_, .int .i64 ((runV lp x14).2.1), .bool ((runV lp x14).2.2.1), .int .i64 ((runV lp x14).2.2.2)] ∧ SlO 40 Y_ q_ m_ c_ (runV lp x14).1) Try.call24 (fun w hw => (run_d x14 qp mp cp lp w (hP.atN (A := (_ :: _ :: _ :: _ :: _ :: Y22)) hw) hP.len (by omega)).mono fun e w' ⟨q_, m_, c_, Y_, he, hO, hb, hY⟩ => ⟨_, _, he, ⟨q_, m_, c_, rfl, hO⟩, hb, hY⟩) ?_
      rintro v66 Y66 ⟨q66, m66, cq66, rfl, hO66⟩
      refine od_ ?_
      exact wk (hmx45 (Y66, cq66, m66, q66, γ166) hO66) [5, 7, 8, 9, 17, 18, 19, 30] [[_], [_], [_], [_], [_], _, _, _] [0, 1, 2, 3, 4, 5, 6, 7] rfl rfl
     ·
      refine qo0 1 [(3, .go (owns 2 0 5))] [5, 8, 9, 17, 18, 19, 28, 29] [(31, .agg #[.int .i64 x14.kind, .int .i64 x14.a, .int .i64 x14.b, .int .i64 x14.vcpu, .bool x14.on])] ?_
      refine od_ ?_
      exact wk (hmx48 γ166 trivial) [5, 8, 9, 17, 18, 19, 28, 29, 31] [[_], [_], [_], [_], [_], _, _] [0, 1, 2, 3, 4, 5, 6] rfl rfl
     ·
      refine qo0 1 [(4, .go (owns 1 0 1))] [5, 7, 8, 9, 17, 18, 19, 28, 29] [(32, .agg #[.slice q22 m22 cq22])] ?_
      refine od_ ?_
      exact wk (hmx50 γ166 trivial) [5, 7, 8, 9, 17, 18, 19, 28, 29, 32] [[_], [_], [_], [_], [_], _, _] [0, 1, 2, 3, 4, 5, 6] rfl rfl
     ·
      refine mo0 1 [] [5, 7, 8, 9, 17, 18, 19, 28, 29] (fun γ186 => [(10, .pointer (some ⟨γ186 0, 0, none⟩))]) (fun γ186 L => bx (γ186 0) (#[.slice none 0 0, .int .i64 0, .bool false, .int .i64 0]) 53 :: L) (fun γ186 => ?_)
      refine od_ ?_
      exact wk (hmx52 (γ166, γ186) trivial) [5, 7, 8, 9, 10, 17, 18, 19, 28, 29] [[_], [_], [_], [_], [_], [_], _, _] [0, 1, 2, 3, 4, 5, 6, 7] rfl rfl
    refine any_cutX (V := Unit) (fun _ => True) 8 #[true, true, false, false, true, false, false, false, false, false, false] (fun _ => [(5, .pointer (some ⟨γ6 0, 0, none⟩)), (7, .pointer (some ⟨γ15 0, 0, none⟩)), (8, .pointer (some ⟨γ23 0, 0, none⟩)), (17, .slice (some ⟨b12, o12, none⟩) m cap2), (18, .int .i64 ((m : Nat))), (19, .int .i64 ((j : Nat))), (28, .agg #[.int .i64 x14.kind, .int .i64 x14.a, .int .i64 x14.b, .int .i64 x14.vcpu, .bool x14.on]), (29, .agg #[.slice qp mp cp]), (32, .agg #[.slice q22 m22 cq22])]) (fun _ => bx (γ23 0) (#[.slice q22 m22 cq22]) 24 :: bx (γ15 0) (#[.int .i64 x14.kind, .int .i64 x14.a, .int .i64 x14.b, .int .i64 x14.vcpu, .bool x14.on]) 51 :: bx (γ6 0) (#[.slice qp mp cp]) 24 :: bx (γ1 0) (#[.slice p n cap]) 24 :: (Y22 ++ (Yp ++ []))) ?_ (fun hmx24 => ?_)
    ·
     rintro _ _
     refine any_fork [2, 3, 7, 8] (by kernel_rfl) (by simp) (each_cons _ rfl ?_ (each_cons _ rfl ?_ (each_cons _ rfl ?_ (each_cons _ rfl ?_ (each_nil)))))
     ·
      refine cN 4 (fun v Y_ => ∃ q_ m_ c_, v = .agg #[.slice q_ m_ c_, .int .i64 ((runV lp x14).2.1), .bool ((runV lp x14).2.2.1), .int .i64 ((runV lp x14).2.2.2)] ∧ SlO 40 Y_ q_ m_ c_ (runV lp x14).1) Try.call24 (fun w hw => (run_d x14 qp mp cp lp w (hP.atN (A := (_ :: _ :: _ :: _ :: Y22)) hw) hP.len (by omega)).mono fun e w' ⟨q_, m_, c_, Y_, he, hO, hb, hY⟩ => ⟨_, _, he, ⟨q_, m_, c_, rfl, hO⟩, hb, hY⟩) ?_
      rintro v66 Y66 ⟨q66, m66, cq66, rfl, hO66⟩
      refine od_ ?_
      exact wk (hmx44 (Y66, cq66, m66, q66) hO66) [5, 7, 8, 17, 18, 19, 30, 32] [[_], [_], [_], [_], _, _, _] [0, 1, 2, 3, 4, 5, 6] rfl rfl
     ·
      refine qo0 1 [(3, .go (owns 1 0 5))] [5, 8, 17, 18, 19, 28, 29, 32] [(31, .agg #[.int .i64 x14.kind, .int .i64 x14.a, .int .i64 x14.b, .int .i64 x14.vcpu, .bool x14.on])] ?_
      refine od_ ?_
      exact wk (hmx47 () trivial) [5, 8, 17, 18, 19, 28, 29, 31, 32] [[_], [_], [_], [_], _, _] [0, 1, 2, 3, 4, 5] rfl rfl
     ·
      refine mo0 1 [] [5, 7, 8, 17, 18, 19, 28, 29, 32] (fun γ166 => [(9, .pointer (some ⟨γ166 0, 0, none⟩))]) (fun γ166 L => bx (γ166 0) (#[.slice none 0 0, .int .i64 0, .bool false, .int .i64 0]) 53 :: L) (fun γ166 => ?_)
      refine od_ ?_
      exact wk (hmx50 γ166 trivial) [5, 7, 8, 9, 17, 18, 19, 28, 29, 32] [[_], [_], [_], [_], [_], _, _] [0, 1, 2, 3, 4, 5, 6] rfl rfl
     ·
      refine mo0 1 [] [5, 7, 8, 17, 18, 19, 28, 29, 32] (fun γ186 => [(10, .pointer (some ⟨γ186 0, 0, none⟩))]) (fun γ186 L => bx (γ186 0) (#[.slice none 0 0, .int .i64 0, .bool false, .int .i64 0]) 53 :: L) (fun γ186 => ?_)
      refine od_ ?_
      exact wk (hmx51 γ186 trivial) [5, 7, 8, 10, 17, 18, 19, 28, 29, 32] [[_], [_], [_], [_], [_], _, _] [0, 1, 2, 3, 4, 5, 6] rfl rfl
    refine any_cutX (V := Unit) (fun _ => True) 8 #[true, true, false, true, false, false, false, false, false, false, false] (fun _ => [(5, .pointer (some ⟨γ6 0, 0, none⟩)), (8, .pointer (some ⟨γ23 0, 0, none⟩)), (17, .slice (some ⟨b12, o12, none⟩) m cap2), (18, .int .i64 ((m : Nat))), (19, .int .i64 ((j : Nat))), (28, .agg #[.int .i64 x14.kind, .int .i64 x14.a, .int .i64 x14.b, .int .i64 x14.vcpu, .bool x14.on]), (29, .agg #[.slice qp mp cp]), (31, .agg #[.int .i64 x14.kind, .int .i64 x14.a, .int .i64 x14.b, .int .i64 x14.vcpu, .bool x14.on])]) (fun _ => bx (γ23 0) (#[.slice q22 m22 cq22]) 24 :: bx (γ15 0) (#[.int .i64 x14.kind, .int .i64 x14.a, .int .i64 x14.b, .int .i64 x14.vcpu, .bool x14.on]) 51 :: bx (γ6 0) (#[.slice qp mp cp]) 24 :: bx (γ1 0) (#[.slice p n cap]) 24 :: (Y22 ++ (Yp ++ []))) ?_ (fun hmx23 => ?_)
    ·
     rintro _ _
     refine any_fork [2, 4, 7, 8] (by kernel_rfl) (by simp) (each_cons _ rfl ?_ (each_cons _ rfl ?_ (each_cons _ rfl ?_ (each_cons _ rfl ?_ (each_nil)))))
     ·
      refine cN 4 (fun v Y_ => ∃ q_ m_ c_, v = .agg #[.slice q_ m_ c_, .int .i64 ((runV lp x14).2.1), .bool ((runV lp x14).2.2.1), .int .i64 ((runV lp x14).2.2.2)] ∧ SlO 40 Y_ q_ m_ c_ (runV lp x14).1) Try.call24 (fun w hw => (run_d x14 qp mp cp lp w (hP.atN (A := (_ :: _ :: _ :: _ :: Y22)) hw) hP.len (by omega)).mono fun e w' ⟨q_, m_, c_, Y_, he, hO, hb, hY⟩ => ⟨_, _, he, ⟨q_, m_, c_, rfl, hO⟩, hb, hY⟩) ?_
      rintro v66 Y66 ⟨q66, m66, cq66, rfl, hO66⟩
      refine od_ ?_
      exact wk (hmx43 (Y66, cq66, m66, q66) hO66) [5, 8, 17, 18, 19, 30, 31] [[_], [_], [_], [_], _, _, _] [0, 1, 2, 3, 4, 5, 6] rfl rfl
     ·
      refine qo0 1 [(4, .go (owns 0 0 1))] [5, 8, 17, 18, 19, 28, 29, 31] [(32, .agg #[.slice q22 m22 cq22])] ?_
      refine od_ ?_
      exact wk (hmx47 () trivial) [5, 8, 17, 18, 19, 28, 29, 31, 32] [[_], [_], [_], [_], _, _] [0, 1, 2, 3, 4, 5] rfl rfl
     ·
      refine mo0 1 [] [5, 8, 17, 18, 19, 28, 29, 31] (fun γ166 => [(9, .pointer (some ⟨γ166 0, 0, none⟩))]) (fun γ166 L => bx (γ166 0) (#[.slice none 0 0, .int .i64 0, .bool false, .int .i64 0]) 53 :: L) (fun γ166 => ?_)
      refine od_ ?_
      exact wk (hmx48 γ166 trivial) [5, 8, 9, 17, 18, 19, 28, 29, 31] [[_], [_], [_], [_], [_], _, _] [0, 1, 2, 3, 4, 5, 6] rfl rfl
     ·
      refine mo0 1 [] [5, 8, 17, 18, 19, 28, 29, 31] (fun γ186 => [(10, .pointer (some ⟨γ186 0, 0, none⟩))]) (fun γ186 L => bx (γ186 0) (#[.slice none 0 0, .int .i64 0, .bool false, .int .i64 0]) 53 :: L) (fun γ186 => ?_)
      refine od_ ?_
      exact wk (hmx49 γ186 trivial) [5, 8, 10, 17, 18, 19, 28, 29, 31] [[_], [_], [_], [_], [_], _, _] [0, 1, 2, 3, 4, 5, 6] rfl rfl
    refine any_cutX (V := (List Ob) × (Nat) × (Nat) × (Option Addr)) (fun ⟨Y66, cq66, m66, q66⟩ => SlO 40 Y66 q66 m66 cq66 (runV lp x14).1) 8 #[true, true, true, false, false, false, false, false, false, false, false] (fun ⟨Y66, cq66, m66, q66⟩ => [(5, .pointer (some ⟨γ6 0, 0, none⟩)), (7, .pointer (some ⟨γ15 0, 0, none⟩)), (8, .pointer (some ⟨γ23 0, 0, none⟩)), (17, .slice (some ⟨b12, o12, none⟩) m cap2), (18, .int .i64 ((m : Nat))), (19, .int .i64 ((j : Nat))), (30, .agg #[.slice q66 m66 cq66, .int .i64 ((runV lp x14).2.1), .bool ((runV lp x14).2.2.1), .int .i64 ((runV lp x14).2.2.2)])]) (fun ⟨Y66, cq66, m66, q66⟩ => bx (γ23 0) (#[.slice q22 m22 cq22]) 24 :: bx (γ15 0) (#[.int .i64 x14.kind, .int .i64 x14.a, .int .i64 x14.b, .int .i64 x14.vcpu, .bool x14.on]) 51 :: bx (γ6 0) (#[.slice qp mp cp]) 24 :: bx (γ1 0) (#[.slice p n cap]) 24 :: (Y66 ++ (Y22 ++ (Yp ++ [])))) ?_ (fun hmx22 => ?_)
    ·
     rintro ⟨Y66, cq66, m66, q66⟩ hO66
     refine any_fork [3, 4, 7, 8] (by kernel_rfl) (by simp) (each_cons _ rfl ?_ (each_cons _ rfl ?_ (each_cons _ rfl ?_ (each_cons _ rfl ?_ (each_nil)))))
     ·
      refine qo0 1 [(3, .go (owns 1 0 5))] [5, 8, 17, 18, 19, 30] [(31, .agg #[.int .i64 x14.kind, .int .i64 x14.a, .int .i64 x14.b, .int .i64 x14.vcpu, .bool x14.on])] ?_
      refine od_ ?_
      exact wk (hmx43 (Y66, cq66, m66, q66) hO66) [5, 8, 17, 18, 19, 30, 31] [[_], [_], [_], [_], _, _, _] [0, 1, 2, 3, 4, 5, 6] rfl rfl
     ·
      refine qo0 1 [(4, .go (owns 0 0 1))] [5, 7, 8, 17, 18, 19, 30] [(32, .agg #[.slice q22 m22 cq22])] ?_
      refine od_ ?_
      exact wk (hmx44 (Y66, cq66, m66, q66) hO66) [5, 7, 8, 17, 18, 19, 30, 32] [[_], [_], [_], [_], _, _, _] [0, 1, 2, 3, 4, 5, 6] rfl rfl
     ·
      refine mo0 1 [] [5, 7, 8, 17, 18, 19, 30] (fun γ166 => [(9, .pointer (some ⟨γ166 0, 0, none⟩))]) (fun γ166 L => bx (γ166 0) (#[.slice none 0 0, .int .i64 0, .bool false, .int .i64 0]) 53 :: L) (fun γ166 => ?_)
      refine od_ ?_
      exact wk (hmx45 (Y66, cq66, m66, q66, γ166) hO66) [5, 7, 8, 9, 17, 18, 19, 30] [[_], [_], [_], [_], [_], _, _, _] [0, 1, 2, 3, 4, 5, 6, 7] rfl rfl
     ·
      refine mo0 1 [] [5, 7, 8, 17, 18, 19, 30] (fun γ186 => [(10, .pointer (some ⟨γ186 0, 0, none⟩))]) (fun γ186 L => bx (γ186 0) (#[.slice none 0 0, .int .i64 0, .bool false, .int .i64 0]) 53 :: L) (fun γ186 => ?_)
      refine od_ ?_
      exact wk (hmx46 (Y66, cq66, m66, q66, γ186) hO66) [5, 7, 8, 10, 17, 18, 19, 30] [[_], [_], [_], [_], [_], _, _, _] [0, 1, 2, 3, 4, 5, 6, 7] rfl rfl
    refine any_cutX (V := (Nat → Nat) × (Nat → Nat)) (fun ⟨γ166, γ186⟩ => True) 9 #[false, false, false, false, false, false, false, true, true, false, false] (fun ⟨γ166, γ186⟩ => [(5, .pointer (some ⟨γ6 0, 0, none⟩)), (7, .pointer (some ⟨γ15 0, 0, none⟩)), (8, .pointer (some ⟨γ23 0, 0, none⟩)), (9, .pointer (some ⟨γ166 0, 0, none⟩)), (10, .pointer (some ⟨γ186 0, 0, none⟩)), (17, .slice (some ⟨b12, o12, none⟩) m cap2), (18, .int .i64 ((m : Nat))), (19, .int .i64 ((j : Nat)))]) (fun ⟨γ166, γ186⟩ => bx (γ186 0) (#[.slice none 0 0, .int .i64 0, .bool false, .int .i64 0]) 53 :: bx (γ166 0) (#[.slice none 0 0, .int .i64 0, .bool false, .int .i64 0]) 53 :: bx (γ23 0) (#[.slice q22 m22 cq22]) 24 :: bx (γ15 0) (#[.int .i64 x14.kind, .int .i64 x14.a, .int .i64 x14.b, .int .i64 x14.vcpu, .bool x14.on]) 51 :: bx (γ6 0) (#[.slice qp mp cp]) 24 :: bx (γ1 0) (#[.slice p n cap]) 24 :: (Y22 ++ (Yp ++ []))) ?_ (fun hmx21 => ?_)
    ·
     rintro ⟨γ166, γ186⟩ _
     refine any_fork [0, 1, 3, 4] (by kernel_rfl) (by simp) (each_cons _ rfl ?_ (each_cons _ rfl ?_ (each_cons _ rfl ?_ (each_cons _ rfl ?_ (each_nil)))))
     ·
      refine qo0 1 [(0, .go (owns 3 0 5))] [5, 7, 8, 9, 10, 17, 18, 19] [(28, .agg #[.int .i64 x14.kind, .int .i64 x14.a, .int .i64 x14.b, .int .i64 x14.vcpu, .bool x14.on])] ?_
      refine od_ ?_
      exact wk (hmx32 (γ166, γ186) trivial) [5, 7, 8, 9, 10, 17, 18, 19, 28] [[_], [_], [_], [_], [_], [_], _, _] [0, 1, 2, 3, 4, 5, 6, 7] rfl rfl
     ·
      refine qo0 1 [(1, .go (owns 4 0 1))] [5, 7, 8, 9, 10, 17, 18, 19] [(29, .agg #[.slice qp mp cp])] ?_
      refine od_ ?_
      exact wk (hmx38 (γ166, γ186) trivial) [5, 7, 8, 9, 10, 17, 18, 19, 29] [[_], [_], [_], [_], [_], [_], _, _] [0, 1, 2, 3, 4, 5, 6, 7] rfl rfl
     ·
      refine qo0 1 [(3, .go (owns 3 0 5))] [5, 7, 8, 9, 10, 17, 18, 19] [(31, .agg #[.int .i64 x14.kind, .int .i64 x14.a, .int .i64 x14.b, .int .i64 x14.vcpu, .bool x14.on])] ?_
      refine od_ ?_
      exact wk (hmx41 (γ166, γ186) trivial) [5, 7, 8, 9, 10, 17, 18, 19, 31] [[_], [_], [_], [_], [_], [_], _, _] [0, 1, 2, 3, 4, 5, 6, 7] rfl rfl
     ·
      refine qo0 1 [(4, .go (owns 2 0 1))] [5, 7, 8, 9, 10, 17, 18, 19] [(32, .agg #[.slice q22 m22 cq22])] ?_
      refine od_ ?_
      exact wk (hmx42 (γ166, γ186) trivial) [5, 7, 8, 9, 10, 17, 18, 19, 32] [[_], [_], [_], [_], [_], [_], _, _] [0, 1, 2, 3, 4, 5, 6, 7] rfl rfl
    refine any_cutX (V := (Nat → Nat)) (fun γ186 => True) 9 #[false, false, false, false, true, false, false, false, true, false, false] (fun γ186 => [(5, .pointer (some ⟨γ6 0, 0, none⟩)), (7, .pointer (some ⟨γ15 0, 0, none⟩)), (8, .pointer (some ⟨γ23 0, 0, none⟩)), (10, .pointer (some ⟨γ186 0, 0, none⟩)), (17, .slice (some ⟨b12, o12, none⟩) m cap2), (18, .int .i64 ((m : Nat))), (19, .int .i64 ((j : Nat))), (32, .agg #[.slice q22 m22 cq22])]) (fun γ186 => bx (γ186 0) (#[.slice none 0 0, .int .i64 0, .bool false, .int .i64 0]) 53 :: bx (γ23 0) (#[.slice q22 m22 cq22]) 24 :: bx (γ15 0) (#[.int .i64 x14.kind, .int .i64 x14.a, .int .i64 x14.b, .int .i64 x14.vcpu, .bool x14.on]) 51 :: bx (γ6 0) (#[.slice qp mp cp]) 24 :: bx (γ1 0) (#[.slice p n cap]) 24 :: (Y22 ++ (Yp ++ []))) ?_ (fun hmx20 => ?_)
    ·
     rintro γ186 _
     refine any_fork [0, 1, 3, 7] (by kernel_rfl) (by simp) (each_cons _ rfl ?_ (each_cons _ rfl ?_ (each_cons _ rfl ?_ (each_cons _ rfl ?_ (each_nil)))))
     ·
      refine qo0 1 [(0, .go (owns 2 0 5))] [5, 7, 8, 10, 17, 18, 19, 32] [(28, .agg #[.int .i64 x14.kind, .int .i64 x14.a, .int .i64 x14.b, .int .i64 x14.vcpu, .bool x14.on])] ?_
      refine od_ ?_
      exact wk (hmx31 γ186 trivial) [5, 7, 8, 10, 17, 18, 19, 28, 32] [[_], [_], [_], [_], [_], _, _] [0, 1, 2, 3, 4, 5, 6] rfl rfl
     ·
      refine qo0 1 [(1, .go (owns 3 0 1))] [5, 7, 8, 10, 17, 18, 19, 32] [(29, .agg #[.slice qp mp cp])] ?_
      refine od_ ?_
      exact wk (hmx37 γ186 trivial) [5, 7, 8, 10, 17, 18, 19, 29, 32] [[_], [_], [_], [_], [_], _, _] [0, 1, 2, 3, 4, 5, 6] rfl rfl
     ·
      refine qo0 1 [(3, .go (owns 2 0 5))] [5, 7, 8, 10, 17, 18, 19, 32] [(31, .agg #[.int .i64 x14.kind, .int .i64 x14.a, .int .i64 x14.b, .int .i64 x14.vcpu, .bool x14.on])] ?_
      refine od_ ?_
      exact wk (hmx40 γ186 trivial) [5, 7, 8, 10, 17, 18, 19, 31, 32] [[_], [_], [_], [_], [_], _, _] [0, 1, 2, 3, 4, 5, 6] rfl rfl
     ·
      refine mo0 1 [] [5, 7, 8, 10, 17, 18, 19, 32] (fun γ166 => [(9, .pointer (some ⟨γ166 0, 0, none⟩))]) (fun γ166 L => bx (γ166 0) (#[.slice none 0 0, .int .i64 0, .bool false, .int .i64 0]) 53 :: L) (fun γ166 => ?_)
      refine od_ ?_
      exact wk (hmx42 (γ166, γ186) trivial) [5, 7, 8, 9, 10, 17, 18, 19, 32] [[_], [_], [_], [_], [_], [_], _, _] [1, 0, 2, 3, 4, 5, 6, 7] rfl rfl
    refine any_cutX (V := (Nat → Nat)) (fun γ166 => True) 9 #[false, false, false, false, true, false, false, true, false, false, false] (fun γ166 => [(5, .pointer (some ⟨γ6 0, 0, none⟩)), (7, .pointer (some ⟨γ15 0, 0, none⟩)), (8, .pointer (some ⟨γ23 0, 0, none⟩)), (9, .pointer (some ⟨γ166 0, 0, none⟩)), (17, .slice (some ⟨b12, o12, none⟩) m cap2), (18, .int .i64 ((m : Nat))), (19, .int .i64 ((j : Nat))), (32, .agg #[.slice q22 m22 cq22])]) (fun γ166 => bx (γ166 0) (#[.slice none 0 0, .int .i64 0, .bool false, .int .i64 0]) 53 :: bx (γ23 0) (#[.slice q22 m22 cq22]) 24 :: bx (γ15 0) (#[.int .i64 x14.kind, .int .i64 x14.a, .int .i64 x14.b, .int .i64 x14.vcpu, .bool x14.on]) 51 :: bx (γ6 0) (#[.slice qp mp cp]) 24 :: bx (γ1 0) (#[.slice p n cap]) 24 :: (Y22 ++ (Yp ++ []))) ?_ (fun hmx19 => ?_)
    ·
     rintro γ166 _
     refine any_fork [0, 1, 3, 8] (by kernel_rfl) (by simp) (each_cons _ rfl ?_ (each_cons _ rfl ?_ (each_cons _ rfl ?_ (each_cons _ rfl ?_ (each_nil)))))
     ·
      refine qo0 1 [(0, .go (owns 2 0 5))] [5, 7, 8, 9, 17, 18, 19, 32] [(28, .agg #[.int .i64 x14.kind, .int .i64 x14.a, .int .i64 x14.b, .int .i64 x14.vcpu, .bool x14.on])] ?_
      refine od_ ?_
      exact wk (hmx30 γ166 trivial) [5, 7, 8, 9, 17, 18, 19, 28, 32] [[_], [_], [_], [_], [_], _, _] [0, 1, 2, 3, 4, 5, 6] rfl rfl
     ·
      refine qo0 1 [(1, .go (owns 3 0 1))] [5, 7, 8, 9, 17, 18, 19, 32] [(29, .agg #[.slice qp mp cp])] ?_
      refine od_ ?_
      exact wk (hmx36 γ166 trivial) [5, 7, 8, 9, 17, 18, 19, 29, 32] [[_], [_], [_], [_], [_], _, _] [0, 1, 2, 3, 4, 5, 6] rfl rfl
     ·
      refine qo0 1 [(3, .go (owns 2 0 5))] [5, 7, 8, 9, 17, 18, 19, 32] [(31, .agg #[.int .i64 x14.kind, .int .i64 x14.a, .int .i64 x14.b, .int .i64 x14.vcpu, .bool x14.on])] ?_
      refine od_ ?_
      exact wk (hmx39 γ166 trivial) [5, 7, 8, 9, 17, 18, 19, 31, 32] [[_], [_], [_], [_], [_], _, _] [0, 1, 2, 3, 4, 5, 6] rfl rfl
     ·
      refine mo0 1 [] [5, 7, 8, 9, 17, 18, 19, 32] (fun γ186 => [(10, .pointer (some ⟨γ186 0, 0, none⟩))]) (fun γ186 L => bx (γ186 0) (#[.slice none 0 0, .int .i64 0, .bool false, .int .i64 0]) 53 :: L) (fun γ186 => ?_)
      refine od_ ?_
      exact wk (hmx42 (γ166, γ186) trivial) [5, 7, 8, 9, 10, 17, 18, 19, 32] [[_], [_], [_], [_], [_], [_], _, _] [0, 1, 2, 3, 4, 5, 6, 7] rfl rfl
    refine any_cutX (V := (Nat → Nat)) (fun γ186 => True) 9 #[false, false, false, true, false, false, false, false, true, false, false] (fun γ186 => [(5, .pointer (some ⟨γ6 0, 0, none⟩)), (7, .pointer (some ⟨γ15 0, 0, none⟩)), (8, .pointer (some ⟨γ23 0, 0, none⟩)), (10, .pointer (some ⟨γ186 0, 0, none⟩)), (17, .slice (some ⟨b12, o12, none⟩) m cap2), (18, .int .i64 ((m : Nat))), (19, .int .i64 ((j : Nat))), (31, .agg #[.int .i64 x14.kind, .int .i64 x14.a, .int .i64 x14.b, .int .i64 x14.vcpu, .bool x14.on])]) (fun γ186 => bx (γ186 0) (#[.slice none 0 0, .int .i64 0, .bool false, .int .i64 0]) 53 :: bx (γ23 0) (#[.slice q22 m22 cq22]) 24 :: bx (γ15 0) (#[.int .i64 x14.kind, .int .i64 x14.a, .int .i64 x14.b, .int .i64 x14.vcpu, .bool x14.on]) 51 :: bx (γ6 0) (#[.slice qp mp cp]) 24 :: bx (γ1 0) (#[.slice p n cap]) 24 :: (Y22 ++ (Yp ++ []))) ?_ (fun hmx18 => ?_)
    ·
     rintro γ186 _
     refine any_fork [0, 1, 4, 7] (by kernel_rfl) (by simp) (each_cons _ rfl ?_ (each_cons _ rfl ?_ (each_cons _ rfl ?_ (each_cons _ rfl ?_ (each_nil)))))
     ·
      refine qo0 1 [(0, .go (owns 2 0 5))] [5, 8, 10, 17, 18, 19, 31] [(28, .agg #[.int .i64 x14.kind, .int .i64 x14.a, .int .i64 x14.b, .int .i64 x14.vcpu, .bool x14.on])] ?_
      refine od_ ?_
      exact wk (hmx29 γ186 trivial) [5, 8, 10, 17, 18, 19, 28, 31] [[_], [_], [_], [_], [_], _, _] [0, 1, 2, 3, 4, 5, 6] rfl rfl
     ·
      refine qo0 1 [(1, .go (owns 3 0 1))] [5, 7, 8, 10, 17, 18, 19, 31] [(29, .agg #[.slice qp mp cp])] ?_
      refine od_ ?_
      exact wk (hmx35 γ186 trivial) [5, 7, 8, 10, 17, 18, 19, 29, 31] [[_], [_], [_], [_], [_], _, _] [0, 1, 2, 3, 4, 5, 6] rfl rfl
     ·
      refine qo0 1 [(4, .go (owns 1 0 1))] [5, 7, 8, 10, 17, 18, 19, 31] [(32, .agg #[.slice q22 m22 cq22])] ?_
      refine od_ ?_
      exact wk (hmx40 γ186 trivial) [5, 7, 8, 10, 17, 18, 19, 31, 32] [[_], [_], [_], [_], [_], _, _] [0, 1, 2, 3, 4, 5, 6] rfl rfl
     ·
      refine mo0 1 [] [5, 7, 8, 10, 17, 18, 19, 31] (fun γ166 => [(9, .pointer (some ⟨γ166 0, 0, none⟩))]) (fun γ166 L => bx (γ166 0) (#[.slice none 0 0, .int .i64 0, .bool false, .int .i64 0]) 53 :: L) (fun γ166 => ?_)
      refine od_ ?_
      exact wk (hmx41 (γ166, γ186) trivial) [5, 7, 8, 9, 10, 17, 18, 19, 31] [[_], [_], [_], [_], [_], [_], _, _] [1, 0, 2, 3, 4, 5, 6, 7] rfl rfl
    refine any_cutX (V := (Nat → Nat)) (fun γ166 => True) 9 #[false, false, false, true, false, false, false, true, false, false, false] (fun γ166 => [(5, .pointer (some ⟨γ6 0, 0, none⟩)), (7, .pointer (some ⟨γ15 0, 0, none⟩)), (8, .pointer (some ⟨γ23 0, 0, none⟩)), (9, .pointer (some ⟨γ166 0, 0, none⟩)), (17, .slice (some ⟨b12, o12, none⟩) m cap2), (18, .int .i64 ((m : Nat))), (19, .int .i64 ((j : Nat))), (31, .agg #[.int .i64 x14.kind, .int .i64 x14.a, .int .i64 x14.b, .int .i64 x14.vcpu, .bool x14.on])]) (fun γ166 => bx (γ166 0) (#[.slice none 0 0, .int .i64 0, .bool false, .int .i64 0]) 53 :: bx (γ23 0) (#[.slice q22 m22 cq22]) 24 :: bx (γ15 0) (#[.int .i64 x14.kind, .int .i64 x14.a, .int .i64 x14.b, .int .i64 x14.vcpu, .bool x14.on]) 51 :: bx (γ6 0) (#[.slice qp mp cp]) 24 :: bx (γ1 0) (#[.slice p n cap]) 24 :: (Y22 ++ (Yp ++ []))) ?_ (fun hmx17 => ?_)
    ·
     rintro γ166 _
     refine any_fork [0, 1, 4, 8] (by kernel_rfl) (by simp) (each_cons _ rfl ?_ (each_cons _ rfl ?_ (each_cons _ rfl ?_ (each_cons _ rfl ?_ (each_nil)))))
     ·
      refine qo0 1 [(0, .go (owns 2 0 5))] [5, 8, 9, 17, 18, 19, 31] [(28, .agg #[.int .i64 x14.kind, .int .i64 x14.a, .int .i64 x14.b, .int .i64 x14.vcpu, .bool x14.on])] ?_
      refine od_ ?_
      exact wk (hmx28 γ166 trivial) [5, 8, 9, 17, 18, 19, 28, 31] [[_], [_], [_], [_], [_], _, _] [0, 1, 2, 3, 4, 5, 6] rfl rfl
     ·
      refine qo0 1 [(1, .go (owns 3 0 1))] [5, 7, 8, 9, 17, 18, 19, 31] [(29, .agg #[.slice qp mp cp])] ?_
      refine od_ ?_
      exact wk (hmx34 γ166 trivial) [5, 7, 8, 9, 17, 18, 19, 29, 31] [[_], [_], [_], [_], [_], _, _] [0, 1, 2, 3, 4, 5, 6] rfl rfl
     ·
      refine qo0 1 [(4, .go (owns 1 0 1))] [5, 7, 8, 9, 17, 18, 19, 31] [(32, .agg #[.slice q22 m22 cq22])] ?_
      refine od_ ?_
      exact wk (hmx39 γ166 trivial) [5, 7, 8, 9, 17, 18, 19, 31, 32] [[_], [_], [_], [_], [_], _, _] [0, 1, 2, 3, 4, 5, 6] rfl rfl
     ·
      refine mo0 1 [] [5, 7, 8, 9, 17, 18, 19, 31] (fun γ186 => [(10, .pointer (some ⟨γ186 0, 0, none⟩))]) (fun γ186 L => bx (γ186 0) (#[.slice none 0 0, .int .i64 0, .bool false, .int .i64 0]) 53 :: L) (fun γ186 => ?_)
      refine od_ ?_
      exact wk (hmx41 (γ166, γ186) trivial) [5, 7, 8, 9, 10, 17, 18, 19, 31] [[_], [_], [_], [_], [_], [_], _, _] [0, 1, 2, 3, 4, 5, 6, 7] rfl rfl
    refine any_cutX (V := Unit) (fun _ => True) 9 #[false, false, false, true, true, false, false, false, false, false, false] (fun _ => [(5, .pointer (some ⟨γ6 0, 0, none⟩)), (7, .pointer (some ⟨γ15 0, 0, none⟩)), (8, .pointer (some ⟨γ23 0, 0, none⟩)), (17, .slice (some ⟨b12, o12, none⟩) m cap2), (18, .int .i64 ((m : Nat))), (19, .int .i64 ((j : Nat))), (31, .agg #[.int .i64 x14.kind, .int .i64 x14.a, .int .i64 x14.b, .int .i64 x14.vcpu, .bool x14.on]), (32, .agg #[.slice q22 m22 cq22])]) (fun _ => bx (γ23 0) (#[.slice q22 m22 cq22]) 24 :: bx (γ15 0) (#[.int .i64 x14.kind, .int .i64 x14.a, .int .i64 x14.b, .int .i64 x14.vcpu, .bool x14.on]) 51 :: bx (γ6 0) (#[.slice qp mp cp]) 24 :: bx (γ1 0) (#[.slice p n cap]) 24 :: (Y22 ++ (Yp ++ []))) ?_ (fun hmx16 => ?_)
    ·
     rintro _ _
     refine any_fork [0, 1, 7, 8] (by kernel_rfl) (by simp) (each_cons _ rfl ?_ (each_cons _ rfl ?_ (each_cons _ rfl ?_ (each_cons _ rfl ?_ (each_nil)))))
     ·
      refine qo0 1 [(0, .go (owns 1 0 5))] [5, 8, 17, 18, 19, 31, 32] [(28, .agg #[.int .i64 x14.kind, .int .i64 x14.a, .int .i64 x14.b, .int .i64 x14.vcpu, .bool x14.on])] ?_
      refine od_ ?_
      exact wk (hmx27 () trivial) [5, 8, 17, 18, 19, 28, 31, 32] [[_], [_], [_], [_], _, _] [0, 1, 2, 3, 4, 5] rfl rfl
     ·
      refine qo0 1 [(1, .go (owns 2 0 1))] [5, 7, 8, 17, 18, 19, 31, 32] [(29, .agg #[.slice qp mp cp])] ?_
      refine od_ ?_
      exact wk (hmx33 () trivial) [5, 7, 8, 17, 18, 19, 29, 31, 32] [[_], [_], [_], [_], _, _] [0, 1, 2, 3, 4, 5] rfl rfl
     ·
      refine mo0 1 [] [5, 7, 8, 17, 18, 19, 31, 32] (fun γ166 => [(9, .pointer (some ⟨γ166 0, 0, none⟩))]) (fun γ166 L => bx (γ166 0) (#[.slice none 0 0, .int .i64 0, .bool false, .int .i64 0]) 53 :: L) (fun γ166 => ?_)
      refine od_ ?_
      exact wk (hmx39 γ166 trivial) [5, 7, 8, 9, 17, 18, 19, 31, 32] [[_], [_], [_], [_], [_], _, _] [0, 1, 2, 3, 4, 5, 6] rfl rfl
     ·
      refine mo0 1 [] [5, 7, 8, 17, 18, 19, 31, 32] (fun γ186 => [(10, .pointer (some ⟨γ186 0, 0, none⟩))]) (fun γ186 L => bx (γ186 0) (#[.slice none 0 0, .int .i64 0, .bool false, .int .i64 0]) 53 :: L) (fun γ186 => ?_)
      refine od_ ?_
      exact wk (hmx40 γ186 trivial) [5, 7, 8, 10, 17, 18, 19, 31, 32] [[_], [_], [_], [_], [_], _, _] [0, 1, 2, 3, 4, 5, 6] rfl rfl
    refine any_cutX (V := (Nat → Nat)) (fun γ186 => True) 9 #[false, true, false, false, false, false, false, false, true, false, false] (fun γ186 => [(5, .pointer (some ⟨γ6 0, 0, none⟩)), (7, .pointer (some ⟨γ15 0, 0, none⟩)), (8, .pointer (some ⟨γ23 0, 0, none⟩)), (10, .pointer (some ⟨γ186 0, 0, none⟩)), (17, .slice (some ⟨b12, o12, none⟩) m cap2), (18, .int .i64 ((m : Nat))), (19, .int .i64 ((j : Nat))), (29, .agg #[.slice qp mp cp])]) (fun γ186 => bx (γ186 0) (#[.slice none 0 0, .int .i64 0, .bool false, .int .i64 0]) 53 :: bx (γ23 0) (#[.slice q22 m22 cq22]) 24 :: bx (γ15 0) (#[.int .i64 x14.kind, .int .i64 x14.a, .int .i64 x14.b, .int .i64 x14.vcpu, .bool x14.on]) 51 :: bx (γ6 0) (#[.slice qp mp cp]) 24 :: bx (γ1 0) (#[.slice p n cap]) 24 :: (Y22 ++ (Yp ++ []))) ?_ (fun hmx15 => ?_)
    ·
     rintro γ186 _
     refine any_fork [0, 3, 4, 7] (by kernel_rfl) (by simp) (each_cons _ rfl ?_ (each_cons _ rfl ?_ (each_cons _ rfl ?_ (each_cons _ rfl ?_ (each_nil)))))
     ·
      refine qo0 1 [(0, .go (owns 2 0 5))] [5, 7, 8, 10, 17, 18, 19, 29] [(28, .agg #[.int .i64 x14.kind, .int .i64 x14.a, .int .i64 x14.b, .int .i64 x14.vcpu, .bool x14.on])] ?_
      refine od_ ?_
      exact wk (hmx26 γ186 trivial) [5, 7, 8, 10, 17, 18, 19, 28, 29] [[_], [_], [_], [_], [_], _, _] [0, 1, 2, 3, 4, 5, 6] rfl rfl
     ·
      refine qo0 1 [(3, .go (owns 2 0 5))] [5, 7, 8, 10, 17, 18, 19, 29] [(31, .agg #[.int .i64 x14.kind, .int .i64 x14.a, .int .i64 x14.b, .int .i64 x14.vcpu, .bool x14.on])] ?_
      refine od_ ?_
      exact wk (hmx35 γ186 trivial) [5, 7, 8, 10, 17, 18, 19, 29, 31] [[_], [_], [_], [_], [_], _, _] [0, 1, 2, 3, 4, 5, 6] rfl rfl
     ·
      refine qo0 1 [(4, .go (owns 1 0 1))] [5, 7, 8, 10, 17, 18, 19, 29] [(32, .agg #[.slice q22 m22 cq22])] ?_
      refine od_ ?_
      exact wk (hmx37 γ186 trivial) [5, 7, 8, 10, 17, 18, 19, 29, 32] [[_], [_], [_], [_], [_], _, _] [0, 1, 2, 3, 4, 5, 6] rfl rfl
     ·
      refine mo0 1 [] [5, 7, 8, 10, 17, 18, 19, 29] (fun γ166 => [(9, .pointer (some ⟨γ166 0, 0, none⟩))]) (fun γ166 L => bx (γ166 0) (#[.slice none 0 0, .int .i64 0, .bool false, .int .i64 0]) 53 :: L) (fun γ166 => ?_)
      refine od_ ?_
      exact wk (hmx38 (γ166, γ186) trivial) [5, 7, 8, 9, 10, 17, 18, 19, 29] [[_], [_], [_], [_], [_], [_], _, _] [1, 0, 2, 3, 4, 5, 6, 7] rfl rfl
    refine any_cutX (V := (Nat → Nat)) (fun γ166 => True) 9 #[false, true, false, false, false, false, false, true, false, false, false] (fun γ166 => [(5, .pointer (some ⟨γ6 0, 0, none⟩)), (7, .pointer (some ⟨γ15 0, 0, none⟩)), (8, .pointer (some ⟨γ23 0, 0, none⟩)), (9, .pointer (some ⟨γ166 0, 0, none⟩)), (17, .slice (some ⟨b12, o12, none⟩) m cap2), (18, .int .i64 ((m : Nat))), (19, .int .i64 ((j : Nat))), (29, .agg #[.slice qp mp cp])]) (fun γ166 => bx (γ166 0) (#[.slice none 0 0, .int .i64 0, .bool false, .int .i64 0]) 53 :: bx (γ23 0) (#[.slice q22 m22 cq22]) 24 :: bx (γ15 0) (#[.int .i64 x14.kind, .int .i64 x14.a, .int .i64 x14.b, .int .i64 x14.vcpu, .bool x14.on]) 51 :: bx (γ6 0) (#[.slice qp mp cp]) 24 :: bx (γ1 0) (#[.slice p n cap]) 24 :: (Y22 ++ (Yp ++ []))) ?_ (fun hmx14 => ?_)
    ·
     rintro γ166 _
     refine any_fork [0, 3, 4, 8] (by kernel_rfl) (by simp) (each_cons _ rfl ?_ (each_cons _ rfl ?_ (each_cons _ rfl ?_ (each_cons _ rfl ?_ (each_nil)))))
     ·
      refine qo0 1 [(0, .go (owns 2 0 5))] [5, 7, 8, 9, 17, 18, 19, 29] [(28, .agg #[.int .i64 x14.kind, .int .i64 x14.a, .int .i64 x14.b, .int .i64 x14.vcpu, .bool x14.on])] ?_
      refine od_ ?_
      exact wk (hmx25 γ166 trivial) [5, 7, 8, 9, 17, 18, 19, 28, 29] [[_], [_], [_], [_], [_], _, _] [0, 1, 2, 3, 4, 5, 6] rfl rfl
     ·
      refine qo0 1 [(3, .go (owns 2 0 5))] [5, 7, 8, 9, 17, 18, 19, 29] [(31, .agg #[.int .i64 x14.kind, .int .i64 x14.a, .int .i64 x14.b, .int .i64 x14.vcpu, .bool x14.on])] ?_
      refine od_ ?_
      exact wk (hmx34 γ166 trivial) [5, 7, 8, 9, 17, 18, 19, 29, 31] [[_], [_], [_], [_], [_], _, _] [0, 1, 2, 3, 4, 5, 6] rfl rfl
     ·
      refine qo0 1 [(4, .go (owns 1 0 1))] [5, 7, 8, 9, 17, 18, 19, 29] [(32, .agg #[.slice q22 m22 cq22])] ?_
      refine od_ ?_
      exact wk (hmx36 γ166 trivial) [5, 7, 8, 9, 17, 18, 19, 29, 32] [[_], [_], [_], [_], [_], _, _] [0, 1, 2, 3, 4, 5, 6] rfl rfl
     ·
      refine mo0 1 [] [5, 7, 8, 9, 17, 18, 19, 29] (fun γ186 => [(10, .pointer (some ⟨γ186 0, 0, none⟩))]) (fun γ186 L => bx (γ186 0) (#[.slice none 0 0, .int .i64 0, .bool false, .int .i64 0]) 53 :: L) (fun γ186 => ?_)
      refine od_ ?_
      exact wk (hmx38 (γ166, γ186) trivial) [5, 7, 8, 9, 10, 17, 18, 19, 29] [[_], [_], [_], [_], [_], [_], _, _] [0, 1, 2, 3, 4, 5, 6, 7] rfl rfl
    refine any_cutX (V := Unit) (fun _ => True) 9 #[false, true, false, false, true, false, false, false, false, false, false] (fun _ => [(5, .pointer (some ⟨γ6 0, 0, none⟩)), (7, .pointer (some ⟨γ15 0, 0, none⟩)), (8, .pointer (some ⟨γ23 0, 0, none⟩)), (17, .slice (some ⟨b12, o12, none⟩) m cap2), (18, .int .i64 ((m : Nat))), (19, .int .i64 ((j : Nat))), (29, .agg #[.slice qp mp cp]), (32, .agg #[.slice q22 m22 cq22])]) (fun _ => bx (γ23 0) (#[.slice q22 m22 cq22]) 24 :: bx (γ15 0) (#[.int .i64 x14.kind, .int .i64 x14.a, .int .i64 x14.b, .int .i64 x14.vcpu, .bool x14.on]) 51 :: bx (γ6 0) (#[.slice qp mp cp]) 24 :: bx (γ1 0) (#[.slice p n cap]) 24 :: (Y22 ++ (Yp ++ []))) ?_ (fun hmx13 => ?_)
    ·
     rintro _ _
     refine any_fork [0, 3, 7, 8] (by kernel_rfl) (by simp) (each_cons _ rfl ?_ (each_cons _ rfl ?_ (each_cons _ rfl ?_ (each_cons _ rfl ?_ (each_nil)))))
     ·
      refine qo0 1 [(0, .go (owns 1 0 5))] [5, 7, 8, 17, 18, 19, 29, 32] [(28, .agg #[.int .i64 x14.kind, .int .i64 x14.a, .int .i64 x14.b, .int .i64 x14.vcpu, .bool x14.on])] ?_
      refine od_ ?_
      exact wk (hmx24 () trivial) [5, 7, 8, 17, 18, 19, 28, 29, 32] [[_], [_], [_], [_], _, _] [0, 1, 2, 3, 4, 5] rfl rfl
     ·
      refine qo0 1 [(3, .go (owns 1 0 5))] [5, 7, 8, 17, 18, 19, 29, 32] [(31, .agg #[.int .i64 x14.kind, .int .i64 x14.a, .int .i64 x14.b, .int .i64 x14.vcpu, .bool x14.on])] ?_
      refine od_ ?_
      exact wk (hmx33 () trivial) [5, 7, 8, 17, 18, 19, 29, 31, 32] [[_], [_], [_], [_], _, _] [0, 1, 2, 3, 4, 5] rfl rfl
     ·
      refine mo0 1 [] [5, 7, 8, 17, 18, 19, 29, 32] (fun γ166 => [(9, .pointer (some ⟨γ166 0, 0, none⟩))]) (fun γ166 L => bx (γ166 0) (#[.slice none 0 0, .int .i64 0, .bool false, .int .i64 0]) 53 :: L) (fun γ166 => ?_)
      refine od_ ?_
      exact wk (hmx36 γ166 trivial) [5, 7, 8, 9, 17, 18, 19, 29, 32] [[_], [_], [_], [_], [_], _, _] [0, 1, 2, 3, 4, 5, 6] rfl rfl
     ·
      refine mo0 1 [] [5, 7, 8, 17, 18, 19, 29, 32] (fun γ186 => [(10, .pointer (some ⟨γ186 0, 0, none⟩))]) (fun γ186 L => bx (γ186 0) (#[.slice none 0 0, .int .i64 0, .bool false, .int .i64 0]) 53 :: L) (fun γ186 => ?_)
      refine od_ ?_
      exact wk (hmx37 γ186 trivial) [5, 7, 8, 10, 17, 18, 19, 29, 32] [[_], [_], [_], [_], [_], _, _] [0, 1, 2, 3, 4, 5, 6] rfl rfl
    refine any_cutX (V := Unit) (fun _ => True) 9 #[false, true, false, true, false, false, false, false, false, false, false] (fun _ => [(5, .pointer (some ⟨γ6 0, 0, none⟩)), (7, .pointer (some ⟨γ15 0, 0, none⟩)), (8, .pointer (some ⟨γ23 0, 0, none⟩)), (17, .slice (some ⟨b12, o12, none⟩) m cap2), (18, .int .i64 ((m : Nat))), (19, .int .i64 ((j : Nat))), (29, .agg #[.slice qp mp cp]), (31, .agg #[.int .i64 x14.kind, .int .i64 x14.a, .int .i64 x14.b, .int .i64 x14.vcpu, .bool x14.on])]) (fun _ => bx (γ23 0) (#[.slice q22 m22 cq22]) 24 :: bx (γ15 0) (#[.int .i64 x14.kind, .int .i64 x14.a, .int .i64 x14.b, .int .i64 x14.vcpu, .bool x14.on]) 51 :: bx (γ6 0) (#[.slice qp mp cp]) 24 :: bx (γ1 0) (#[.slice p n cap]) 24 :: (Y22 ++ (Yp ++ []))) ?_ (fun hmx12 => ?_)
    ·
     rintro _ _
     refine any_fork [0, 4, 7, 8] (by kernel_rfl) (by simp) (each_cons _ rfl ?_ (each_cons _ rfl ?_ (each_cons _ rfl ?_ (each_cons _ rfl ?_ (each_nil)))))
     ·
      refine qo0 1 [(0, .go (owns 1 0 5))] [5, 8, 17, 18, 19, 29, 31] [(28, .agg #[.int .i64 x14.kind, .int .i64 x14.a, .int .i64 x14.b, .int .i64 x14.vcpu, .bool x14.on])] ?_
      refine od_ ?_
      exact wk (hmx23 () trivial) [5, 8, 17, 18, 19, 28, 29, 31] [[_], [_], [_], [_], _, _] [0, 1, 2, 3, 4, 5] rfl rfl
     ·
      refine qo0 1 [(4, .go (owns 0 0 1))] [5, 7, 8, 17, 18, 19, 29, 31] [(32, .agg #[.slice q22 m22 cq22])] ?_
      refine od_ ?_
      exact wk (hmx33 () trivial) [5, 7, 8, 17, 18, 19, 29, 31, 32] [[_], [_], [_], [_], _, _] [0, 1, 2, 3, 4, 5] rfl rfl
     ·
      refine mo0 1 [] [5, 7, 8, 17, 18, 19, 29, 31] (fun γ166 => [(9, .pointer (some ⟨γ166 0, 0, none⟩))]) (fun γ166 L => bx (γ166 0) (#[.slice none 0 0, .int .i64 0, .bool false, .int .i64 0]) 53 :: L) (fun γ166 => ?_)
      refine od_ ?_
      exact wk (hmx34 γ166 trivial) [5, 7, 8, 9, 17, 18, 19, 29, 31] [[_], [_], [_], [_], [_], _, _] [0, 1, 2, 3, 4, 5, 6] rfl rfl
     ·
      refine mo0 1 [] [5, 7, 8, 17, 18, 19, 29, 31] (fun γ186 => [(10, .pointer (some ⟨γ186 0, 0, none⟩))]) (fun γ186 L => bx (γ186 0) (#[.slice none 0 0, .int .i64 0, .bool false, .int .i64 0]) 53 :: L) (fun γ186 => ?_)
      refine od_ ?_
      exact wk (hmx35 γ186 trivial) [5, 7, 8, 10, 17, 18, 19, 29, 31] [[_], [_], [_], [_], [_], _, _] [0, 1, 2, 3, 4, 5, 6] rfl rfl
    refine any_cutX (V := (Nat → Nat)) (fun γ186 => True) 9 #[true, false, false, false, false, false, false, false, true, false, false] (fun γ186 => [(5, .pointer (some ⟨γ6 0, 0, none⟩)), (7, .pointer (some ⟨γ15 0, 0, none⟩)), (8, .pointer (some ⟨γ23 0, 0, none⟩)), (10, .pointer (some ⟨γ186 0, 0, none⟩)), (17, .slice (some ⟨b12, o12, none⟩) m cap2), (18, .int .i64 ((m : Nat))), (19, .int .i64 ((j : Nat))), (28, .agg #[.int .i64 x14.kind, .int .i64 x14.a, .int .i64 x14.b, .int .i64 x14.vcpu, .bool x14.on])]) (fun γ186 => bx (γ186 0) (#[.slice none 0 0, .int .i64 0, .bool false, .int .i64 0]) 53 :: bx (γ23 0) (#[.slice q22 m22 cq22]) 24 :: bx (γ15 0) (#[.int .i64 x14.kind, .int .i64 x14.a, .int .i64 x14.b, .int .i64 x14.vcpu, .bool x14.on]) 51 :: bx (γ6 0) (#[.slice qp mp cp]) 24 :: bx (γ1 0) (#[.slice p n cap]) 24 :: (Y22 ++ (Yp ++ []))) ?_ (fun hmx11 => ?_)
    ·
     rintro γ186 _
     refine any_fork [1, 3, 4, 7] (by kernel_rfl) (by simp) (each_cons _ rfl ?_ (each_cons _ rfl ?_ (each_cons _ rfl ?_ (each_cons _ rfl ?_ (each_nil)))))
     ·
      refine qo0 1 [(1, .go (owns 3 0 1))] [5, 7, 8, 10, 17, 18, 19, 28] [(29, .agg #[.slice qp mp cp])] ?_
      refine od_ ?_
      exact wk (hmx26 γ186 trivial) [5, 7, 8, 10, 17, 18, 19, 28, 29] [[_], [_], [_], [_], [_], _, _] [0, 1, 2, 3, 4, 5, 6] rfl rfl
     ·
      refine qo0 1 [(3, .go (owns 2 0 5))] [5, 8, 10, 17, 18, 19, 28] [(31, .agg #[.int .i64 x14.kind, .int .i64 x14.a, .int .i64 x14.b, .int .i64 x14.vcpu, .bool x14.on])] ?_
      refine od_ ?_
      exact wk (hmx29 γ186 trivial) [5, 8, 10, 17, 18, 19, 28, 31] [[_], [_], [_], [_], [_], _, _] [0, 1, 2, 3, 4, 5, 6] rfl rfl
     ·
      refine qo0 1 [(4, .go (owns 1 0 1))] [5, 7, 8, 10, 17, 18, 19, 28] [(32, .agg #[.slice q22 m22 cq22])] ?_
      refine od_ ?_
      exact wk (hmx31 γ186 trivial) [5, 7, 8, 10, 17, 18, 19, 28, 32] [[_], [_], [_], [_], [_], _, _] [0, 1, 2, 3, 4, 5, 6] rfl rfl
     ·
      refine mo0 1 [] [5, 7, 8, 10, 17, 18, 19, 28] (fun γ166 => [(9, .pointer (some ⟨γ166 0, 0, none⟩))]) (fun γ166 L => bx (γ166 0) (#[.slice none 0 0, .int .i64 0, .bool false, .int .i64 0]) 53 :: L) (fun γ166 => ?_)
      refine od_ ?_
      exact wk (hmx32 (γ166, γ186) trivial) [5, 7, 8, 9, 10, 17, 18, 19, 28] [[_], [_], [_], [_], [_], [_], _, _] [1, 0, 2, 3, 4, 5, 6, 7] rfl rfl
    refine any_cutX (V := (Nat → Nat)) (fun γ166 => True) 9 #[true, false, false, false, false, false, false, true, false, false, false] (fun γ166 => [(5, .pointer (some ⟨γ6 0, 0, none⟩)), (7, .pointer (some ⟨γ15 0, 0, none⟩)), (8, .pointer (some ⟨γ23 0, 0, none⟩)), (9, .pointer (some ⟨γ166 0, 0, none⟩)), (17, .slice (some ⟨b12, o12, none⟩) m cap2), (18, .int .i64 ((m : Nat))), (19, .int .i64 ((j : Nat))), (28, .agg #[.int .i64 x14.kind, .int .i64 x14.a, .int .i64 x14.b, .int .i64 x14.vcpu, .bool x14.on])]) (fun γ166 => bx (γ166 0) (#[.slice none 0 0, .int .i64 0, .bool false, .int .i64 0]) 53 :: bx (γ23 0) (#[.slice q22 m22 cq22]) 24 :: bx (γ15 0) (#[.int .i64 x14.kind, .int .i64 x14.a, .int .i64 x14.b, .int .i64 x14.vcpu, .bool x14.on]) 51 :: bx (γ6 0) (#[.slice qp mp cp]) 24 :: bx (γ1 0) (#[.slice p n cap]) 24 :: (Y22 ++ (Yp ++ []))) ?_ (fun hmx10 => ?_)
    ·
     rintro γ166 _
     refine any_fork [1, 3, 4, 8] (by kernel_rfl) (by simp) (each_cons _ rfl ?_ (each_cons _ rfl ?_ (each_cons _ rfl ?_ (each_cons _ rfl ?_ (each_nil)))))
     ·
      refine qo0 1 [(1, .go (owns 3 0 1))] [5, 7, 8, 9, 17, 18, 19, 28] [(29, .agg #[.slice qp mp cp])] ?_
      refine od_ ?_
      exact wk (hmx25 γ166 trivial) [5, 7, 8, 9, 17, 18, 19, 28, 29] [[_], [_], [_], [_], [_], _, _] [0, 1, 2, 3, 4, 5, 6] rfl rfl
     ·
      refine qo0 1 [(3, .go (owns 2 0 5))] [5, 8, 9, 17, 18, 19, 28] [(31, .agg #[.int .i64 x14.kind, .int .i64 x14.a, .int .i64 x14.b, .int .i64 x14.vcpu, .bool x14.on])] ?_
      refine od_ ?_
      exact wk (hmx28 γ166 trivial) [5, 8, 9, 17, 18, 19, 28, 31] [[_], [_], [_], [_], [_], _, _] [0, 1, 2, 3, 4, 5, 6] rfl rfl
     ·
      refine qo0 1 [(4, .go (owns 1 0 1))] [5, 7, 8, 9, 17, 18, 19, 28] [(32, .agg #[.slice q22 m22 cq22])] ?_
      refine od_ ?_
      exact wk (hmx30 γ166 trivial) [5, 7, 8, 9, 17, 18, 19, 28, 32] [[_], [_], [_], [_], [_], _, _] [0, 1, 2, 3, 4, 5, 6] rfl rfl
     ·
      refine mo0 1 [] [5, 7, 8, 9, 17, 18, 19, 28] (fun γ186 => [(10, .pointer (some ⟨γ186 0, 0, none⟩))]) (fun γ186 L => bx (γ186 0) (#[.slice none 0 0, .int .i64 0, .bool false, .int .i64 0]) 53 :: L) (fun γ186 => ?_)
      refine od_ ?_
      exact wk (hmx32 (γ166, γ186) trivial) [5, 7, 8, 9, 10, 17, 18, 19, 28] [[_], [_], [_], [_], [_], [_], _, _] [0, 1, 2, 3, 4, 5, 6, 7] rfl rfl
    refine any_cutX (V := Unit) (fun _ => True) 9 #[true, false, false, false, true, false, false, false, false, false, false] (fun _ => [(5, .pointer (some ⟨γ6 0, 0, none⟩)), (7, .pointer (some ⟨γ15 0, 0, none⟩)), (8, .pointer (some ⟨γ23 0, 0, none⟩)), (17, .slice (some ⟨b12, o12, none⟩) m cap2), (18, .int .i64 ((m : Nat))), (19, .int .i64 ((j : Nat))), (28, .agg #[.int .i64 x14.kind, .int .i64 x14.a, .int .i64 x14.b, .int .i64 x14.vcpu, .bool x14.on]), (32, .agg #[.slice q22 m22 cq22])]) (fun _ => bx (γ23 0) (#[.slice q22 m22 cq22]) 24 :: bx (γ15 0) (#[.int .i64 x14.kind, .int .i64 x14.a, .int .i64 x14.b, .int .i64 x14.vcpu, .bool x14.on]) 51 :: bx (γ6 0) (#[.slice qp mp cp]) 24 :: bx (γ1 0) (#[.slice p n cap]) 24 :: (Y22 ++ (Yp ++ []))) ?_ (fun hmx9 => ?_)
    ·
     rintro _ _
     refine any_fork [1, 3, 7, 8] (by kernel_rfl) (by simp) (each_cons _ rfl ?_ (each_cons _ rfl ?_ (each_cons _ rfl ?_ (each_cons _ rfl ?_ (each_nil)))))
     ·
      refine qo0 1 [(1, .go (owns 2 0 1))] [5, 7, 8, 17, 18, 19, 28, 32] [(29, .agg #[.slice qp mp cp])] ?_
      refine od_ ?_
      exact wk (hmx24 () trivial) [5, 7, 8, 17, 18, 19, 28, 29, 32] [[_], [_], [_], [_], _, _] [0, 1, 2, 3, 4, 5] rfl rfl
     ·
      refine qo0 1 [(3, .go (owns 1 0 5))] [5, 8, 17, 18, 19, 28, 32] [(31, .agg #[.int .i64 x14.kind, .int .i64 x14.a, .int .i64 x14.b, .int .i64 x14.vcpu, .bool x14.on])] ?_
      refine od_ ?_
      exact wk (hmx27 () trivial) [5, 8, 17, 18, 19, 28, 31, 32] [[_], [_], [_], [_], _, _] [0, 1, 2, 3, 4, 5] rfl rfl
     ·
      refine mo0 1 [] [5, 7, 8, 17, 18, 19, 28, 32] (fun γ166 => [(9, .pointer (some ⟨γ166 0, 0, none⟩))]) (fun γ166 L => bx (γ166 0) (#[.slice none 0 0, .int .i64 0, .bool false, .int .i64 0]) 53 :: L) (fun γ166 => ?_)
      refine od_ ?_
      exact wk (hmx30 γ166 trivial) [5, 7, 8, 9, 17, 18, 19, 28, 32] [[_], [_], [_], [_], [_], _, _] [0, 1, 2, 3, 4, 5, 6] rfl rfl
     ·
      refine mo0 1 [] [5, 7, 8, 17, 18, 19, 28, 32] (fun γ186 => [(10, .pointer (some ⟨γ186 0, 0, none⟩))]) (fun γ186 L => bx (γ186 0) (#[.slice none 0 0, .int .i64 0, .bool false, .int .i64 0]) 53 :: L) (fun γ186 => ?_)
      refine od_ ?_
      exact wk (hmx31 γ186 trivial) [5, 7, 8, 10, 17, 18, 19, 28, 32] [[_], [_], [_], [_], [_], _, _] [0, 1, 2, 3, 4, 5, 6] rfl rfl
    refine any_cutX (V := Unit) (fun _ => True) 9 #[true, false, false, true, false, false, false, false, false, false, false] (fun _ => [(5, .pointer (some ⟨γ6 0, 0, none⟩)), (8, .pointer (some ⟨γ23 0, 0, none⟩)), (17, .slice (some ⟨b12, o12, none⟩) m cap2), (18, .int .i64 ((m : Nat))), (19, .int .i64 ((j : Nat))), (28, .agg #[.int .i64 x14.kind, .int .i64 x14.a, .int .i64 x14.b, .int .i64 x14.vcpu, .bool x14.on]), (31, .agg #[.int .i64 x14.kind, .int .i64 x14.a, .int .i64 x14.b, .int .i64 x14.vcpu, .bool x14.on])]) (fun _ => bx (γ23 0) (#[.slice q22 m22 cq22]) 24 :: bx (γ15 0) (#[.int .i64 x14.kind, .int .i64 x14.a, .int .i64 x14.b, .int .i64 x14.vcpu, .bool x14.on]) 51 :: bx (γ6 0) (#[.slice qp mp cp]) 24 :: bx (γ1 0) (#[.slice p n cap]) 24 :: (Y22 ++ (Yp ++ []))) ?_ (fun hmx8 => ?_)
    ·
     rintro _ _
     refine any_fork [1, 4, 7, 8] (by kernel_rfl) (by simp) (each_cons _ rfl ?_ (each_cons _ rfl ?_ (each_cons _ rfl ?_ (each_cons _ rfl ?_ (each_nil)))))
     ·
      refine qo0 1 [(1, .go (owns 2 0 1))] [5, 8, 17, 18, 19, 28, 31] [(29, .agg #[.slice qp mp cp])] ?_
      refine od_ ?_
      exact wk (hmx23 () trivial) [5, 8, 17, 18, 19, 28, 29, 31] [[_], [_], [_], [_], _, _] [0, 1, 2, 3, 4, 5] rfl rfl
     ·
      refine qo0 1 [(4, .go (owns 0 0 1))] [5, 8, 17, 18, 19, 28, 31] [(32, .agg #[.slice q22 m22 cq22])] ?_
      refine od_ ?_
      exact wk (hmx27 () trivial) [5, 8, 17, 18, 19, 28, 31, 32] [[_], [_], [_], [_], _, _] [0, 1, 2, 3, 4, 5] rfl rfl
     ·
      refine mo0 1 [] [5, 8, 17, 18, 19, 28, 31] (fun γ166 => [(9, .pointer (some ⟨γ166 0, 0, none⟩))]) (fun γ166 L => bx (γ166 0) (#[.slice none 0 0, .int .i64 0, .bool false, .int .i64 0]) 53 :: L) (fun γ166 => ?_)
      refine od_ ?_
      exact wk (hmx28 γ166 trivial) [5, 8, 9, 17, 18, 19, 28, 31] [[_], [_], [_], [_], [_], _, _] [0, 1, 2, 3, 4, 5, 6] rfl rfl
     ·
      refine mo0 1 [] [5, 8, 17, 18, 19, 28, 31] (fun γ186 => [(10, .pointer (some ⟨γ186 0, 0, none⟩))]) (fun γ186 L => bx (γ186 0) (#[.slice none 0 0, .int .i64 0, .bool false, .int .i64 0]) 53 :: L) (fun γ186 => ?_)
      refine od_ ?_
      exact wk (hmx29 γ186 trivial) [5, 8, 10, 17, 18, 19, 28, 31] [[_], [_], [_], [_], [_], _, _] [0, 1, 2, 3, 4, 5, 6] rfl rfl
    refine any_cutX (V := Unit) (fun _ => True) 9 #[true, true, false, false, false, false, false, false, false, false, false] (fun _ => [(5, .pointer (some ⟨γ6 0, 0, none⟩)), (7, .pointer (some ⟨γ15 0, 0, none⟩)), (8, .pointer (some ⟨γ23 0, 0, none⟩)), (17, .slice (some ⟨b12, o12, none⟩) m cap2), (18, .int .i64 ((m : Nat))), (19, .int .i64 ((j : Nat))), (28, .agg #[.int .i64 x14.kind, .int .i64 x14.a, .int .i64 x14.b, .int .i64 x14.vcpu, .bool x14.on]), (29, .agg #[.slice qp mp cp])]) (fun _ => bx (γ23 0) (#[.slice q22 m22 cq22]) 24 :: bx (γ15 0) (#[.int .i64 x14.kind, .int .i64 x14.a, .int .i64 x14.b, .int .i64 x14.vcpu, .bool x14.on]) 51 :: bx (γ6 0) (#[.slice qp mp cp]) 24 :: bx (γ1 0) (#[.slice p n cap]) 24 :: (Y22 ++ (Yp ++ []))) ?_ (fun hmx7 => ?_)
    ·
     rintro _ _
     refine any_fork [2, 3, 4, 7, 8] (by kernel_rfl) (by simp) (each_cons _ rfl ?_ (each_cons _ rfl ?_ (each_cons _ rfl ?_ (each_cons _ rfl ?_ (each_cons _ rfl ?_ (each_nil))))))
     ·
      refine cN 4 (fun v Y_ => ∃ q_ m_ c_, v = .agg #[.slice q_ m_ c_, .int .i64 ((runV lp x14).2.1), .bool ((runV lp x14).2.2.1), .int .i64 ((runV lp x14).2.2.2)] ∧ SlO 40 Y_ q_ m_ c_ (runV lp x14).1) Try.call24 (fun w hw => (run_d x14 qp mp cp lp w (hP.atN (A := (_ :: _ :: _ :: _ :: Y22)) hw) hP.len (by omega)).mono fun e w' ⟨q_, m_, c_, Y_, he, hO, hb, hY⟩ => ⟨_, _, he, ⟨q_, m_, c_, rfl, hO⟩, hb, hY⟩) ?_
      rintro v66 Y66 ⟨q66, m66, cq66, rfl, hO66⟩
      refine od_ ?_
      exact wk (hmx22 (Y66, cq66, m66, q66) hO66) [5, 7, 8, 17, 18, 19, 30] [[_], [_], [_], [_], _, _, _] [0, 1, 2, 3, 4, 5, 6] rfl rfl
     ·
      refine qo0 1 [(3, .go (owns 1 0 5))] [5, 8, 17, 18, 19, 28, 29] [(31, .agg #[.int .i64 x14.kind, .int .i64 x14.a, .int .i64 x14.b, .int .i64 x14.vcpu, .bool x14.on])] ?_
      refine od_ ?_
      exact wk (hmx23 () trivial) [5, 8, 17, 18, 19, 28, 29, 31] [[_], [_], [_], [_], _, _] [0, 1, 2, 3, 4, 5] rfl rfl
     ·
      refine qo0 1 [(4, .go (owns 0 0 1))] [5, 7, 8, 17, 18, 19, 28, 29] [(32, .agg #[.slice q22 m22 cq22])] ?_
      refine od_ ?_
      exact wk (hmx24 () trivial) [5, 7, 8, 17, 18, 19, 28, 29, 32] [[_], [_], [_], [_], _, _] [0, 1, 2, 3, 4, 5] rfl rfl
     ·
      refine mo0 1 [] [5, 7, 8, 17, 18, 19, 28, 29] (fun γ166 => [(9, .pointer (some ⟨γ166 0, 0, none⟩))]) (fun γ166 L => bx (γ166 0) (#[.slice none 0 0, .int .i64 0, .bool false, .int .i64 0]) 53 :: L) (fun γ166 => ?_)
      refine od_ ?_
      exact wk (hmx25 γ166 trivial) [5, 7, 8, 9, 17, 18, 19, 28, 29] [[_], [_], [_], [_], [_], _, _] [0, 1, 2, 3, 4, 5, 6] rfl rfl
     ·
      refine mo0 1 [] [5, 7, 8, 17, 18, 19, 28, 29] (fun γ186 => [(10, .pointer (some ⟨γ186 0, 0, none⟩))]) (fun γ186 L => bx (γ186 0) (#[.slice none 0 0, .int .i64 0, .bool false, .int .i64 0]) 53 :: L) (fun γ186 => ?_)
      refine od_ ?_
      exact wk (hmx26 γ186 trivial) [5, 7, 8, 10, 17, 18, 19, 28, 29] [[_], [_], [_], [_], [_], _, _] [0, 1, 2, 3, 4, 5, 6] rfl rfl
    refine any_cutX (V := (Nat → Nat)) (fun γ186 => True) 10 #[false, false, false, false, false, false, false, false, true, false, false] (fun γ186 => [(5, .pointer (some ⟨γ6 0, 0, none⟩)), (7, .pointer (some ⟨γ15 0, 0, none⟩)), (8, .pointer (some ⟨γ23 0, 0, none⟩)), (10, .pointer (some ⟨γ186 0, 0, none⟩)), (17, .slice (some ⟨b12, o12, none⟩) m cap2), (18, .int .i64 ((m : Nat))), (19, .int .i64 ((j : Nat)))]) (fun γ186 => bx (γ186 0) (#[.slice none 0 0, .int .i64 0, .bool false, .int .i64 0]) 53 :: bx (γ23 0) (#[.slice q22 m22 cq22]) 24 :: bx (γ15 0) (#[.int .i64 x14.kind, .int .i64 x14.a, .int .i64 x14.b, .int .i64 x14.vcpu, .bool x14.on]) 51 :: bx (γ6 0) (#[.slice qp mp cp]) 24 :: bx (γ1 0) (#[.slice p n cap]) 24 :: (Y22 ++ (Yp ++ []))) ?_ (fun hmx6 => ?_)
    ·
     rintro γ186 _
     refine any_fork [0, 1, 3, 4, 7] (by kernel_rfl) (by simp) (each_cons _ rfl ?_ (each_cons _ rfl ?_ (each_cons _ rfl ?_ (each_cons _ rfl ?_ (each_cons _ rfl ?_ (each_nil))))))
     ·
      refine qo0 1 [(0, .go (owns 2 0 5))] [5, 7, 8, 10, 17, 18, 19] [(28, .agg #[.int .i64 x14.kind, .int .i64 x14.a, .int .i64 x14.b, .int .i64 x14.vcpu, .bool x14.on])] ?_
      refine od_ ?_
      exact wk (hmx11 γ186 trivial) [5, 7, 8, 10, 17, 18, 19, 28] [[_], [_], [_], [_], [_], _, _] [0, 1, 2, 3, 4, 5, 6] rfl rfl
     ·
      refine qo0 1 [(1, .go (owns 3 0 1))] [5, 7, 8, 10, 17, 18, 19] [(29, .agg #[.slice qp mp cp])] ?_
      refine od_ ?_
      exact wk (hmx15 γ186 trivial) [5, 7, 8, 10, 17, 18, 19, 29] [[_], [_], [_], [_], [_], _, _] [0, 1, 2, 3, 4, 5, 6] rfl rfl
     ·
      refine qo0 1 [(3, .go (owns 2 0 5))] [5, 7, 8, 10, 17, 18, 19] [(31, .agg #[.int .i64 x14.kind, .int .i64 x14.a, .int .i64 x14.b, .int .i64 x14.vcpu, .bool x14.on])] ?_
      refine od_ ?_
      exact wk (hmx18 γ186 trivial) [5, 7, 8, 10, 17, 18, 19, 31] [[_], [_], [_], [_], [_], _, _] [0, 1, 2, 3, 4, 5, 6] rfl rfl
     ·
      refine qo0 1 [(4, .go (owns 1 0 1))] [5, 7, 8, 10, 17, 18, 19] [(32, .agg #[.slice q22 m22 cq22])] ?_
      refine od_ ?_
      exact wk (hmx20 γ186 trivial) [5, 7, 8, 10, 17, 18, 19, 32] [[_], [_], [_], [_], [_], _, _] [0, 1, 2, 3, 4, 5, 6] rfl rfl
     ·
      refine mo0 1 [] [5, 7, 8, 10, 17, 18, 19] (fun γ166 => [(9, .pointer (some ⟨γ166 0, 0, none⟩))]) (fun γ166 L => bx (γ166 0) (#[.slice none 0 0, .int .i64 0, .bool false, .int .i64 0]) 53 :: L) (fun γ166 => ?_)
      refine od_ ?_
      exact wk (hmx21 (γ166, γ186) trivial) [5, 7, 8, 9, 10, 17, 18, 19] [[_], [_], [_], [_], [_], [_], _, _] [1, 0, 2, 3, 4, 5, 6, 7] rfl rfl
    refine any_cutX (V := (Nat → Nat)) (fun γ166 => True) 10 #[false, false, false, false, false, false, false, true, false, false, false] (fun γ166 => [(5, .pointer (some ⟨γ6 0, 0, none⟩)), (7, .pointer (some ⟨γ15 0, 0, none⟩)), (8, .pointer (some ⟨γ23 0, 0, none⟩)), (9, .pointer (some ⟨γ166 0, 0, none⟩)), (17, .slice (some ⟨b12, o12, none⟩) m cap2), (18, .int .i64 ((m : Nat))), (19, .int .i64 ((j : Nat)))]) (fun γ166 => bx (γ166 0) (#[.slice none 0 0, .int .i64 0, .bool false, .int .i64 0]) 53 :: bx (γ23 0) (#[.slice q22 m22 cq22]) 24 :: bx (γ15 0) (#[.int .i64 x14.kind, .int .i64 x14.a, .int .i64 x14.b, .int .i64 x14.vcpu, .bool x14.on]) 51 :: bx (γ6 0) (#[.slice qp mp cp]) 24 :: bx (γ1 0) (#[.slice p n cap]) 24 :: (Y22 ++ (Yp ++ []))) ?_ (fun hmx5 => ?_)
    ·
     rintro γ166 _
     refine any_fork [0, 1, 3, 4, 8] (by kernel_rfl) (by simp) (each_cons _ rfl ?_ (each_cons _ rfl ?_ (each_cons _ rfl ?_ (each_cons _ rfl ?_ (each_cons _ rfl ?_ (each_nil))))))
     ·
      refine qo0 1 [(0, .go (owns 2 0 5))] [5, 7, 8, 9, 17, 18, 19] [(28, .agg #[.int .i64 x14.kind, .int .i64 x14.a, .int .i64 x14.b, .int .i64 x14.vcpu, .bool x14.on])] ?_
      refine od_ ?_
      exact wk (hmx10 γ166 trivial) [5, 7, 8, 9, 17, 18, 19, 28] [[_], [_], [_], [_], [_], _, _] [0, 1, 2, 3, 4, 5, 6] rfl rfl
     ·
      refine qo0 1 [(1, .go (owns 3 0 1))] [5, 7, 8, 9, 17, 18, 19] [(29, .agg #[.slice qp mp cp])] ?_
      refine od_ ?_
      exact wk (hmx14 γ166 trivial) [5, 7, 8, 9, 17, 18, 19, 29] [[_], [_], [_], [_], [_], _, _] [0, 1, 2, 3, 4, 5, 6] rfl rfl
     ·
      refine qo0 1 [(3, .go (owns 2 0 5))] [5, 7, 8, 9, 17, 18, 19] [(31, .agg #[.int .i64 x14.kind, .int .i64 x14.a, .int .i64 x14.b, .int .i64 x14.vcpu, .bool x14.on])] ?_
      refine od_ ?_
      exact wk (hmx17 γ166 trivial) [5, 7, 8, 9, 17, 18, 19, 31] [[_], [_], [_], [_], [_], _, _] [0, 1, 2, 3, 4, 5, 6] rfl rfl
     ·
      refine qo0 1 [(4, .go (owns 1 0 1))] [5, 7, 8, 9, 17, 18, 19] [(32, .agg #[.slice q22 m22 cq22])] ?_
      refine od_ ?_
      exact wk (hmx19 γ166 trivial) [5, 7, 8, 9, 17, 18, 19, 32] [[_], [_], [_], [_], [_], _, _] [0, 1, 2, 3, 4, 5, 6] rfl rfl
     ·
      refine mo0 1 [] [5, 7, 8, 9, 17, 18, 19] (fun γ186 => [(10, .pointer (some ⟨γ186 0, 0, none⟩))]) (fun γ186 L => bx (γ186 0) (#[.slice none 0 0, .int .i64 0, .bool false, .int .i64 0]) 53 :: L) (fun γ186 => ?_)
      refine od_ ?_
      exact wk (hmx21 (γ166, γ186) trivial) [5, 7, 8, 9, 10, 17, 18, 19] [[_], [_], [_], [_], [_], [_], _, _] [0, 1, 2, 3, 4, 5, 6, 7] rfl rfl
    refine any_cutX (V := Unit) (fun _ => True) 10 #[false, false, false, false, true, false, false, false, false, false, false] (fun _ => [(5, .pointer (some ⟨γ6 0, 0, none⟩)), (7, .pointer (some ⟨γ15 0, 0, none⟩)), (8, .pointer (some ⟨γ23 0, 0, none⟩)), (17, .slice (some ⟨b12, o12, none⟩) m cap2), (18, .int .i64 ((m : Nat))), (19, .int .i64 ((j : Nat))), (32, .agg #[.slice q22 m22 cq22])]) (fun _ => bx (γ23 0) (#[.slice q22 m22 cq22]) 24 :: bx (γ15 0) (#[.int .i64 x14.kind, .int .i64 x14.a, .int .i64 x14.b, .int .i64 x14.vcpu, .bool x14.on]) 51 :: bx (γ6 0) (#[.slice qp mp cp]) 24 :: bx (γ1 0) (#[.slice p n cap]) 24 :: (Y22 ++ (Yp ++ []))) ?_ (fun hmx4 => ?_)
    ·
     rintro _ _
     refine any_fork [0, 1, 3, 7, 8] (by kernel_rfl) (by simp) (each_cons _ rfl ?_ (each_cons _ rfl ?_ (each_cons _ rfl ?_ (each_cons _ rfl ?_ (each_cons _ rfl ?_ (each_nil))))))
     ·
      refine qo0 1 [(0, .go (owns 1 0 5))] [5, 7, 8, 17, 18, 19, 32] [(28, .agg #[.int .i64 x14.kind, .int .i64 x14.a, .int .i64 x14.b, .int .i64 x14.vcpu, .bool x14.on])] ?_
      refine od_ ?_
      exact wk (hmx9 () trivial) [5, 7, 8, 17, 18, 19, 28, 32] [[_], [_], [_], [_], _, _] [0, 1, 2, 3, 4, 5] rfl rfl
     ·
      refine qo0 1 [(1, .go (owns 2 0 1))] [5, 7, 8, 17, 18, 19, 32] [(29, .agg #[.slice qp mp cp])] ?_
      refine od_ ?_
      exact wk (hmx13 () trivial) [5, 7, 8, 17, 18, 19, 29, 32] [[_], [_], [_], [_], _, _] [0, 1, 2, 3, 4, 5] rfl rfl
     ·
      refine qo0 1 [(3, .go (owns 1 0 5))] [5, 7, 8, 17, 18, 19, 32] [(31, .agg #[.int .i64 x14.kind, .int .i64 x14.a, .int .i64 x14.b, .int .i64 x14.vcpu, .bool x14.on])] ?_
      refine od_ ?_
      exact wk (hmx16 () trivial) [5, 7, 8, 17, 18, 19, 31, 32] [[_], [_], [_], [_], _, _] [0, 1, 2, 3, 4, 5] rfl rfl
     ·
      refine mo0 1 [] [5, 7, 8, 17, 18, 19, 32] (fun γ166 => [(9, .pointer (some ⟨γ166 0, 0, none⟩))]) (fun γ166 L => bx (γ166 0) (#[.slice none 0 0, .int .i64 0, .bool false, .int .i64 0]) 53 :: L) (fun γ166 => ?_)
      refine od_ ?_
      exact wk (hmx19 γ166 trivial) [5, 7, 8, 9, 17, 18, 19, 32] [[_], [_], [_], [_], [_], _, _] [0, 1, 2, 3, 4, 5, 6] rfl rfl
     ·
      refine mo0 1 [] [5, 7, 8, 17, 18, 19, 32] (fun γ186 => [(10, .pointer (some ⟨γ186 0, 0, none⟩))]) (fun γ186 L => bx (γ186 0) (#[.slice none 0 0, .int .i64 0, .bool false, .int .i64 0]) 53 :: L) (fun γ186 => ?_)
      refine od_ ?_
      exact wk (hmx20 γ186 trivial) [5, 7, 8, 10, 17, 18, 19, 32] [[_], [_], [_], [_], [_], _, _] [0, 1, 2, 3, 4, 5, 6] rfl rfl
    refine any_cutX (V := Unit) (fun _ => True) 10 #[false, false, false, true, false, false, false, false, false, false, false] (fun _ => [(5, .pointer (some ⟨γ6 0, 0, none⟩)), (7, .pointer (some ⟨γ15 0, 0, none⟩)), (8, .pointer (some ⟨γ23 0, 0, none⟩)), (17, .slice (some ⟨b12, o12, none⟩) m cap2), (18, .int .i64 ((m : Nat))), (19, .int .i64 ((j : Nat))), (31, .agg #[.int .i64 x14.kind, .int .i64 x14.a, .int .i64 x14.b, .int .i64 x14.vcpu, .bool x14.on])]) (fun _ => bx (γ23 0) (#[.slice q22 m22 cq22]) 24 :: bx (γ15 0) (#[.int .i64 x14.kind, .int .i64 x14.a, .int .i64 x14.b, .int .i64 x14.vcpu, .bool x14.on]) 51 :: bx (γ6 0) (#[.slice qp mp cp]) 24 :: bx (γ1 0) (#[.slice p n cap]) 24 :: (Y22 ++ (Yp ++ []))) ?_ (fun hmx3 => ?_)
    ·
     rintro _ _
     refine any_fork [0, 1, 4, 7, 8] (by kernel_rfl) (by simp) (each_cons _ rfl ?_ (each_cons _ rfl ?_ (each_cons _ rfl ?_ (each_cons _ rfl ?_ (each_cons _ rfl ?_ (each_nil))))))
     ·
      refine qo0 1 [(0, .go (owns 1 0 5))] [5, 8, 17, 18, 19, 31] [(28, .agg #[.int .i64 x14.kind, .int .i64 x14.a, .int .i64 x14.b, .int .i64 x14.vcpu, .bool x14.on])] ?_
      refine od_ ?_
      exact wk (hmx8 () trivial) [5, 8, 17, 18, 19, 28, 31] [[_], [_], [_], [_], _, _] [0, 1, 2, 3, 4, 5] rfl rfl
     ·
      refine qo0 1 [(1, .go (owns 2 0 1))] [5, 7, 8, 17, 18, 19, 31] [(29, .agg #[.slice qp mp cp])] ?_
      refine od_ ?_
      exact wk (hmx12 () trivial) [5, 7, 8, 17, 18, 19, 29, 31] [[_], [_], [_], [_], _, _] [0, 1, 2, 3, 4, 5] rfl rfl
     ·
      refine qo0 1 [(4, .go (owns 0 0 1))] [5, 7, 8, 17, 18, 19, 31] [(32, .agg #[.slice q22 m22 cq22])] ?_
      refine od_ ?_
      exact wk (hmx16 () trivial) [5, 7, 8, 17, 18, 19, 31, 32] [[_], [_], [_], [_], _, _] [0, 1, 2, 3, 4, 5] rfl rfl
     ·
      refine mo0 1 [] [5, 7, 8, 17, 18, 19, 31] (fun γ166 => [(9, .pointer (some ⟨γ166 0, 0, none⟩))]) (fun γ166 L => bx (γ166 0) (#[.slice none 0 0, .int .i64 0, .bool false, .int .i64 0]) 53 :: L) (fun γ166 => ?_)
      refine od_ ?_
      exact wk (hmx17 γ166 trivial) [5, 7, 8, 9, 17, 18, 19, 31] [[_], [_], [_], [_], [_], _, _] [0, 1, 2, 3, 4, 5, 6] rfl rfl
     ·
      refine mo0 1 [] [5, 7, 8, 17, 18, 19, 31] (fun γ186 => [(10, .pointer (some ⟨γ186 0, 0, none⟩))]) (fun γ186 L => bx (γ186 0) (#[.slice none 0 0, .int .i64 0, .bool false, .int .i64 0]) 53 :: L) (fun γ186 => ?_)
      refine od_ ?_
      exact wk (hmx18 γ186 trivial) [5, 7, 8, 10, 17, 18, 19, 31] [[_], [_], [_], [_], [_], _, _] [0, 1, 2, 3, 4, 5, 6] rfl rfl
    refine any_cutX (V := Unit) (fun _ => True) 10 #[false, true, false, false, false, false, false, false, false, false, false] (fun _ => [(5, .pointer (some ⟨γ6 0, 0, none⟩)), (7, .pointer (some ⟨γ15 0, 0, none⟩)), (8, .pointer (some ⟨γ23 0, 0, none⟩)), (17, .slice (some ⟨b12, o12, none⟩) m cap2), (18, .int .i64 ((m : Nat))), (19, .int .i64 ((j : Nat))), (29, .agg #[.slice qp mp cp])]) (fun _ => bx (γ23 0) (#[.slice q22 m22 cq22]) 24 :: bx (γ15 0) (#[.int .i64 x14.kind, .int .i64 x14.a, .int .i64 x14.b, .int .i64 x14.vcpu, .bool x14.on]) 51 :: bx (γ6 0) (#[.slice qp mp cp]) 24 :: bx (γ1 0) (#[.slice p n cap]) 24 :: (Y22 ++ (Yp ++ []))) ?_ (fun hmx2 => ?_)
    ·
     rintro _ _
     refine any_fork [0, 3, 4, 7, 8] (by kernel_rfl) (by simp) (each_cons _ rfl ?_ (each_cons _ rfl ?_ (each_cons _ rfl ?_ (each_cons _ rfl ?_ (each_cons _ rfl ?_ (each_nil))))))
     ·
      refine qo0 1 [(0, .go (owns 1 0 5))] [5, 7, 8, 17, 18, 19, 29] [(28, .agg #[.int .i64 x14.kind, .int .i64 x14.a, .int .i64 x14.b, .int .i64 x14.vcpu, .bool x14.on])] ?_
      refine od_ ?_
      exact wk (hmx7 () trivial) [5, 7, 8, 17, 18, 19, 28, 29] [[_], [_], [_], [_], _, _] [0, 1, 2, 3, 4, 5] rfl rfl
     ·
      refine qo0 1 [(3, .go (owns 1 0 5))] [5, 7, 8, 17, 18, 19, 29] [(31, .agg #[.int .i64 x14.kind, .int .i64 x14.a, .int .i64 x14.b, .int .i64 x14.vcpu, .bool x14.on])] ?_
      refine od_ ?_
      exact wk (hmx12 () trivial) [5, 7, 8, 17, 18, 19, 29, 31] [[_], [_], [_], [_], _, _] [0, 1, 2, 3, 4, 5] rfl rfl
     ·
      refine qo0 1 [(4, .go (owns 0 0 1))] [5, 7, 8, 17, 18, 19, 29] [(32, .agg #[.slice q22 m22 cq22])] ?_
      refine od_ ?_
      exact wk (hmx13 () trivial) [5, 7, 8, 17, 18, 19, 29, 32] [[_], [_], [_], [_], _, _] [0, 1, 2, 3, 4, 5] rfl rfl
     ·
      refine mo0 1 [] [5, 7, 8, 17, 18, 19, 29] (fun γ166 => [(9, .pointer (some ⟨γ166 0, 0, none⟩))]) (fun γ166 L => bx (γ166 0) (#[.slice none 0 0, .int .i64 0, .bool false, .int .i64 0]) 53 :: L) (fun γ166 => ?_)
      refine od_ ?_
      exact wk (hmx14 γ166 trivial) [5, 7, 8, 9, 17, 18, 19, 29] [[_], [_], [_], [_], [_], _, _] [0, 1, 2, 3, 4, 5, 6] rfl rfl
     ·
      refine mo0 1 [] [5, 7, 8, 17, 18, 19, 29] (fun γ186 => [(10, .pointer (some ⟨γ186 0, 0, none⟩))]) (fun γ186 L => bx (γ186 0) (#[.slice none 0 0, .int .i64 0, .bool false, .int .i64 0]) 53 :: L) (fun γ186 => ?_)
      refine od_ ?_
      exact wk (hmx15 γ186 trivial) [5, 7, 8, 10, 17, 18, 19, 29] [[_], [_], [_], [_], [_], _, _] [0, 1, 2, 3, 4, 5, 6] rfl rfl
    refine any_cutX (V := Unit) (fun _ => True) 10 #[true, false, false, false, false, false, false, false, false, false, false] (fun _ => [(5, .pointer (some ⟨γ6 0, 0, none⟩)), (7, .pointer (some ⟨γ15 0, 0, none⟩)), (8, .pointer (some ⟨γ23 0, 0, none⟩)), (17, .slice (some ⟨b12, o12, none⟩) m cap2), (18, .int .i64 ((m : Nat))), (19, .int .i64 ((j : Nat))), (28, .agg #[.int .i64 x14.kind, .int .i64 x14.a, .int .i64 x14.b, .int .i64 x14.vcpu, .bool x14.on])]) (fun _ => bx (γ23 0) (#[.slice q22 m22 cq22]) 24 :: bx (γ15 0) (#[.int .i64 x14.kind, .int .i64 x14.a, .int .i64 x14.b, .int .i64 x14.vcpu, .bool x14.on]) 51 :: bx (γ6 0) (#[.slice qp mp cp]) 24 :: bx (γ1 0) (#[.slice p n cap]) 24 :: (Y22 ++ (Yp ++ []))) ?_ (fun hmx1 => ?_)
    ·
     rintro _ _
     refine any_fork [1, 3, 4, 7, 8] (by kernel_rfl) (by simp) (each_cons _ rfl ?_ (each_cons _ rfl ?_ (each_cons _ rfl ?_ (each_cons _ rfl ?_ (each_cons _ rfl ?_ (each_nil))))))
     ·
      refine qo0 1 [(1, .go (owns 2 0 1))] [5, 7, 8, 17, 18, 19, 28] [(29, .agg #[.slice qp mp cp])] ?_
      refine od_ ?_
      exact wk (hmx7 () trivial) [5, 7, 8, 17, 18, 19, 28, 29] [[_], [_], [_], [_], _, _] [0, 1, 2, 3, 4, 5] rfl rfl
     ·
      refine qo0 1 [(3, .go (owns 1 0 5))] [5, 8, 17, 18, 19, 28] [(31, .agg #[.int .i64 x14.kind, .int .i64 x14.a, .int .i64 x14.b, .int .i64 x14.vcpu, .bool x14.on])] ?_
      refine od_ ?_
      exact wk (hmx8 () trivial) [5, 8, 17, 18, 19, 28, 31] [[_], [_], [_], [_], _, _] [0, 1, 2, 3, 4, 5] rfl rfl
     ·
      refine qo0 1 [(4, .go (owns 0 0 1))] [5, 7, 8, 17, 18, 19, 28] [(32, .agg #[.slice q22 m22 cq22])] ?_
      refine od_ ?_
      exact wk (hmx9 () trivial) [5, 7, 8, 17, 18, 19, 28, 32] [[_], [_], [_], [_], _, _] [0, 1, 2, 3, 4, 5] rfl rfl
     ·
      refine mo0 1 [] [5, 7, 8, 17, 18, 19, 28] (fun γ166 => [(9, .pointer (some ⟨γ166 0, 0, none⟩))]) (fun γ166 L => bx (γ166 0) (#[.slice none 0 0, .int .i64 0, .bool false, .int .i64 0]) 53 :: L) (fun γ166 => ?_)
      refine od_ ?_
      exact wk (hmx10 γ166 trivial) [5, 7, 8, 9, 17, 18, 19, 28] [[_], [_], [_], [_], [_], _, _] [0, 1, 2, 3, 4, 5, 6] rfl rfl
     ·
      refine mo0 1 [] [5, 7, 8, 17, 18, 19, 28] (fun γ186 => [(10, .pointer (some ⟨γ186 0, 0, none⟩))]) (fun γ186 L => bx (γ186 0) (#[.slice none 0 0, .int .i64 0, .bool false, .int .i64 0]) 53 :: L) (fun γ186 => ?_)
      refine od_ ?_
      exact wk (hmx11 γ186 trivial) [5, 7, 8, 10, 17, 18, 19, 28] [[_], [_], [_], [_], [_], _, _] [0, 1, 2, 3, 4, 5, 6] rfl rfl
    refine any_fork [0, 1, 3, 4, 7, 8] (by kernel_rfl) (by simp) (each_cons _ rfl ?_ (each_cons _ rfl ?_ (each_cons _ rfl ?_ (each_cons _ rfl ?_ (each_cons _ rfl ?_ (each_cons _ rfl ?_ (each_nil)))))))
    ·
     refine qo0 1 [(0, .go (owns 1 0 5))] [5, 7, 8, 17, 18, 19] [(28, .agg #[.int .i64 x14.kind, .int .i64 x14.a, .int .i64 x14.b, .int .i64 x14.vcpu, .bool x14.on])] ?_
     refine od_ ?_
     exact wk (hmx1 () trivial) [5, 7, 8, 17, 18, 19, 28] [[_], [_], [_], [_], _, _] [0, 1, 2, 3, 4, 5] rfl rfl
    ·
     refine qo0 1 [(1, .go (owns 2 0 1))] [5, 7, 8, 17, 18, 19] [(29, .agg #[.slice qp mp cp])] ?_
     refine od_ ?_
     exact wk (hmx2 () trivial) [5, 7, 8, 17, 18, 19, 29] [[_], [_], [_], [_], _, _] [0, 1, 2, 3, 4, 5] rfl rfl
    ·
     refine qo0 1 [(3, .go (owns 1 0 5))] [5, 7, 8, 17, 18, 19] [(31, .agg #[.int .i64 x14.kind, .int .i64 x14.a, .int .i64 x14.b, .int .i64 x14.vcpu, .bool x14.on])] ?_
     refine od_ ?_
     exact wk (hmx3 () trivial) [5, 7, 8, 17, 18, 19, 31] [[_], [_], [_], [_], _, _] [0, 1, 2, 3, 4, 5] rfl rfl
    ·
     refine qo0 1 [(4, .go (owns 0 0 1))] [5, 7, 8, 17, 18, 19] [(32, .agg #[.slice q22 m22 cq22])] ?_
     refine od_ ?_
     exact wk (hmx4 () trivial) [5, 7, 8, 17, 18, 19, 32] [[_], [_], [_], [_], _, _] [0, 1, 2, 3, 4, 5] rfl rfl
    ·
     refine mo0 1 [] [5, 7, 8, 17, 18, 19] (fun γ166 => [(9, .pointer (some ⟨γ166 0, 0, none⟩))]) (fun γ166 L => bx (γ166 0) (#[.slice none 0 0, .int .i64 0, .bool false, .int .i64 0]) 53 :: L) (fun γ166 => ?_)
     refine od_ ?_
     exact wk (hmx5 γ166 trivial) [5, 7, 8, 9, 17, 18, 19] [[_], [_], [_], [_], [_], _, _] [0, 1, 2, 3, 4, 5, 6] rfl rfl
    ·
     refine mo0 1 [] [5, 7, 8, 17, 18, 19] (fun γ186 => [(10, .pointer (some ⟨γ186 0, 0, none⟩))]) (fun γ186 L => bx (γ186 0) (#[.slice none 0 0, .int .i64 0, .bool false, .int .i64 0]) 53 :: L) (fun γ186 => ?_)
     refine od_ ?_
     exact wk (hmx6 γ186 trivial) [5, 7, 8, 10, 17, 18, 19] [[_], [_], [_], [_], [_], _, _] [0, 1, 2, 3, 4, 5, 6] rfl rfl
   rintro ⟨Y126, Y146, Y66, cq126, cq146, cq66, m126, m146, m66, q126, q146, q66, γ166, γ186⟩ ⟨hO126, hO146, hO66, hm126⟩
   refine any_nil (by kernel_rfl) ?_
   refine ds_ (sq_ (sq_ ?_))
   have hrl := run_len (l := lp) (o := x14)
   have hrl9 := hO66.len
   have hrl10 := hO146.len
   refine ao_ (qo 24 [(1, .go (owns 1 3 1)), (3, .go (owns 0 3 1)), (4, .no), (7, .go (owns 1 1 1)), (9, .go (owns 0 1 1)), (10, .no), (14, .go (owns 1 2 1)), (16, .go (owns 0 2 1)), (17, .eqs false), (21, .go (owns 1 0 1)), (23, .go (owns 0 0 1))] [5, 8, 9, 10, 17, 18, 19] [(54, .bool false), (56, .agg #[.slice q66 m66 cq66]), (58, .agg #[.slice q146 m146 cq146])] ([¬ (((runV lp x14).2.2.2 : Int) ≠ ((runV lp x14).2.2.2 : Int))] ++ ([¬ (((runV lp x14).2.1 : Int) ≠ ((runV lp x14).2.1 : Int))] ++ ([EqRun Try.prog .neq 4 (.tmp 49) (.tmp 51) (.bool ((runV lp x14).2.2.1)) (.bool ((runV lp x14).2.2.1)) false]))) (alA (al1 ((fun h => h rfl))) (alA (al1 ((fun h => h rfl))) (al1 (bool_same _)))) (cD (.bool true) Try.call15 (fun w hw => by have := rsame_d q66 m66 cq66 ((runV lp x14).1) q146 m146 cq146 ((runV lp x14).1) w (hO66.at ((hw.tailN 6).sub ((List.sublist_append_right Y146 _).trans (List.sublist_append_right Y126 _)))) hO66.len (by omega) (hO146.atN (A := (_ :: _ :: _ :: _ :: _ :: _ :: Y126)) hw) hO146.len (by omega); simpa using this) (qo0 5 [(28, .go (owns 4 0 1)), (29, .go (owns 2 0 1))] [5, 8, 9, 10, 17, 18, 19] [(62, .bool false), (63, .agg #[.slice qp mp cp]), (64, .agg #[.slice q22 m22 cq22])] (cD (.bool true) Try.call15 (fun w hw => by have := rsame_d qp mp cp lp q22 m22 cq22 lp w (hP.at ((hw.tailN 6).sub ((((List.sublist_append_right Y22 _).trans (List.sublist_append_right Y66 _)).trans (List.sublist_append_right Y146 _)).trans (List.sublist_append_right Y126 _)))) hP.len (by omega) (hO22.at ((hw.tailN 6).sub (((List.sublist_append_right Y66 _).trans (List.sublist_append_right Y146 _)).trans (List.sublist_append_right Y126 _)))) hO22.len (by omega); simpa using this) (qo0 2 [] [5, 8, 9, 10, 17, 18, 19] [(67, .bool false)] (on_ (ds_ (f_ (at_skip (ds_ (sq_ (ao_ (qo0 2 [(1, .go (owns 0 0 1))] [5, 8, 9, 17, 18, 19] [(69, .agg #[.slice q146 m146 cq146])] (cP (fun v L' => ∃ q capq Y, v = .agg #[.slice q m146 capq] ∧ L' = List.take 6 (bx (γ186 0) (#[.slice q146 m146 cq146, .int .i64 ((runV lp x14).2.1), .bool ((runV lp x14).2.2.1), .int .i64 ((runV lp x14).2.2.2)]) 53 :: bx (γ166 0) (#[.slice q66 m66 cq66, .int .i64 ((runV lp x14).2.1), .bool ((runV lp x14).2.2.1), .int .i64 ((runV lp x14).2.2.2)]) 53 :: bx (γ23 0) (#[.slice q22 m22 cq22]) 24 :: bx (γ15 0) (#[.int .i64 x14.kind, .int .i64 x14.a, .int .i64 x14.b, .int .i64 x14.vcpu, .bool x14.on]) 51 :: bx (γ6 0) (#[.slice qp mp cp]) 24 :: bx (γ1 0) (#[.slice p n cap]) 24 :: (Y126 ++ (Y146 ++ (Y66 ++ (Y22 ++ (Yp ++ [])))))) ++ (Y ++ List.drop 6 (bx (γ186 0) (#[.slice q146 m146 cq146, .int .i64 ((runV lp x14).2.1), .bool ((runV lp x14).2.2.1), .int .i64 ((runV lp x14).2.2.2)]) 53 :: bx (γ166 0) (#[.slice q66 m66 cq66, .int .i64 ((runV lp x14).2.1), .bool ((runV lp x14).2.2.1), .int .i64 ((runV lp x14).2.2.2)]) 53 :: bx (γ23 0) (#[.slice q22 m22 cq22]) 24 :: bx (γ15 0) (#[.int .i64 x14.kind, .int .i64 x14.a, .int .i64 x14.b, .int .i64 x14.vcpu, .bool x14.on]) 51 :: bx (γ6 0) (#[.slice qp mp cp]) 24 :: bx (γ1 0) (#[.slice p n cap]) 24 :: (Y126 ++ (Y146 ++ (Y66 ++ (Y22 ++ (Yp ++ []))))))) ∧ SlO 40 Y q m146 capq ((runV lp x14).1)) Try.call26 (fun w hw => (copy_d q146 m146 cq146 ((runV lp x14).1) w (hO146.atN (A := (_ :: _ :: _ :: _ :: _ :: _ :: Y126)) hw) hO146.len (by omega)).mono fun e w' ⟨q, capq, Y, he, hO, hb, hY⟩ => ⟨_, _, he, ⟨q, capq, Y, rfl, rfl, hO⟩, hw.join hb hY 6⟩) ?_))))))))))))))
   rintro v289 L289 ⟨q289, cq289, Y289, rfl, rfl, hO289⟩
   refine mo0 2 [(4, .go (owns 0 0 1))] [5, 8, 9, 17, 18, 19] (fun γ290 => [(11, .pointer (some ⟨γ290 0, 0, none⟩))]) (fun γ290 L => bx (γ290 0) (#[.slice q289 m146 cq289]) 24 :: L) (fun γ290 => on_ (ds_ (sq_ (sq_ (qa0 [(2, .go (owns 2 0 1))] [5, 8, 9, 11, 17, 18, 19] [(74, .int .i64 ((m66 : Nat))), (75, .int .i64 0)] (ds_ (at_block (at_loop (α := Nat × List Ob) [5, 8, 9, 11, 17, 18, 19, 74, 75] (fun ⟨k9, Yt⟩ => [(5, .pointer (some ⟨γ6 0, 0, none⟩)), (8, .pointer (some ⟨γ23 0, 0, none⟩)), (9, .pointer (some ⟨γ166 0, 0, none⟩)), (11, .pointer (some ⟨γ290 0, 0, none⟩)), (17, .slice (some ⟨b12, o12, none⟩) m cap2), (18, .int .i64 ((m : Nat))), (19, .int .i64 ((j : Nat))), (74, .int .i64 ((m66 : Nat))), (75, .int .i64 ((k9 : Nat)))]) (fun ⟨k9, Yt⟩ => bx (γ290 0) (#[.slice q289 m146 cq289]) 24 :: bx (γ186 0) (#[.slice q146 m146 cq146, .int .i64 ((runV lp x14).2.1), .bool ((runV lp x14).2.2.1), .int .i64 ((runV lp x14).2.2.2)]) 53 :: bx (γ166 0) (#[.slice q66 m66 cq66, .int .i64 ((runV lp x14).2.1), .bool ((runV lp x14).2.2.1), .int .i64 ((runV lp x14).2.2.2)]) 53 :: bx (γ23 0) (#[.slice q22 m22 cq22]) 24 :: bx (γ15 0) (#[.int .i64 x14.kind, .int .i64 x14.a, .int .i64 x14.b, .int .i64 x14.vcpu, .bool x14.on]) 51 :: bx (γ6 0) (#[.slice qp mp cp]) 24 :: bx (γ1 0) (#[.slice p n cap]) 24 :: (Y289 ++ (Y126 ++ (Y146 ++ (Yt ++ (Y22 ++ (Yp ++ []))))))) (fun ⟨k9, Yt⟩ => k9 ≤ m66 ∧ SlO 40 Yt q66 m66 cq66 (mixV numF (runV lp x14).1 k9)) (fun ⟨k9, Yt⟩ => m66 - k9) (0, Y66) (by kernel_rfl) rfl ⟨Nat.zero_le _, by rw [mix_zero]; exact hO66⟩ ?_))))))))
   rintro ⟨k9, Yt⟩
   rintro ⟨hk9, hT⟩
   have htl := hT.len
   rw [mix_len] at htl
   refine sq_ ?_
   by_cases q293 : ((k9 : Nat) : Int) < ((m66 : Nat) : Int)
   ·
    refine qa [(0, .yes)] [5, 8, 9, 11, 17, 18, 19, 74, 75] [(76, .bool true)] ([((k9 : Nat) : Int) < ((m66 : Nat) : Int)]) (al1 q293) (ds_ (sq_ (t_ (at_skip (ds_ (sq_ (at_block (sq_ (qa0 [] [5, 8, 9, 11, 17, 18, 19, 74, 75] [(12, .int .i64 ((k9 : Nat)))] (ds_ (At.pick [[bx (γ290 0) (#[.slice q289 m146 cq289]) 24], [bx (γ186 0) (#[.slice q146 m146 cq146, .int .i64 ((runV lp x14).2.1), .bool ((runV lp x14).2.2.1), .int .i64 ((runV lp x14).2.2.2)]) 53], [bx (γ166 0) (#[.slice q66 m66 cq66, .int .i64 ((runV lp x14).2.1), .bool ((runV lp x14).2.2.1), .int .i64 ((runV lp x14).2.2.2)]) 53], [bx (γ23 0) (#[.slice q22 m22 cq22]) 24], [bx (γ15 0) (#[.int .i64 x14.kind, .int .i64 x14.a, .int .i64 x14.b, .int .i64 x14.vcpu, .bool x14.on]) 51], [bx (γ6 0) (#[.slice qp mp cp]) 24], [bx (γ1 0) (#[.slice p n cap]) 24], Y289, Y126, Y146, Yt, Y22, Yp] [0, 1, 2, 3, 4, 5, 6, 10, 7, 8, 9, 11, 12] [] (bx (γ290 0) (#[.slice q289 m146 cq289]) 24 :: bx (γ186 0) (#[.slice q146 m146 cq146, .int .i64 ((runV lp x14).2.1), .bool ((runV lp x14).2.2.1), .int .i64 ((runV lp x14).2.2.2)]) 53 :: bx (γ166 0) (#[.slice q66 m66 cq66, .int .i64 ((runV lp x14).2.1), .bool ((runV lp x14).2.2.1), .int .i64 ((runV lp x14).2.2.2)]) 53 :: bx (γ23 0) (#[.slice q22 m22 cq22]) 24 :: bx (γ15 0) (#[.int .i64 x14.kind, .int .i64 x14.a, .int .i64 x14.b, .int .i64 x14.vcpu, .bool x14.on]) 51 :: bx (γ6 0) (#[.slice qp mp cp]) 24 :: bx (γ1 0) (#[.slice p n cap]) 24 :: (Yt ++ (Y289 ++ (Y126 ++ (Y146 ++ (Y22 ++ (Yp ++ []))))))) (by kernel_rfl) rfl rfl ?_)))))))))))
    have hln297 := hT.len
    obtain ⟨g297, cs297, rfl, rfl, hOw297⟩ := hT.rowOf (i := k9) (by omega)
    obtain ⟨x299, hx299⟩ := get_some (l := (mixV numF (runV lp x14).1 k9)) (m := k9) (by omega)
    refine ma [(2, .go (owns 2 0 1)), (4, .at g297 0 k9), (6, .go (ownps 7 (0 + k9 * 5) [undef]))] [5, 8, 9, 11, 17, 18, 19, 74, 75] (fun _ => []) (fun _ L => (L.set 7 (bx g297 ((cs297).setIfInBounds (0 + k9 * 5) (.int .i64 99)) 40))) (fun _ => [(some ⟨g297, 0, none⟩ : Option Addr) = some ⟨g297, 0, none⟩, ((k9 : Nat)) = ((k9 : Nat) : Int), k9 < m66] ++ ([0 + k9 * 5 < (cs297).size])) (fun _ => (alA (al2 rfl (al2 rfl (al1 (by omega)))) (al1 (hOw297.room hT.len hx299 (f := 0) (by decide))))) (fun _ => done_block (ds_ (qa [(0, .fit)] [5, 8, 9, 11, 17, 18, 19, 74] [(75, .int .i64 ((k9 + 1 : Nat)))] ([Fit .i64 ((k9 + 1 : Nat))]) (al1 (fit64 (by omega) (by omega))) (Done.pick [[bx (γ290 0) (#[.slice q289 m146 cq289]) 24], [bx (γ186 0) (#[.slice q146 m146 cq146, .int .i64 ((runV lp x14).2.1), .bool ((runV lp x14).2.2.1), .int .i64 ((runV lp x14).2.2.2)]) 53], [bx (γ166 0) (#[.slice (some ⟨g297, 0, none⟩) m66 cq66, .int .i64 ((runV lp x14).2.1), .bool ((runV lp x14).2.2.1), .int .i64 ((runV lp x14).2.2.2)]) 53], [bx (γ23 0) (#[.slice q22 m22 cq22]) 24], [bx (γ15 0) (#[.int .i64 x14.kind, .int .i64 x14.a, .int .i64 x14.b, .int .i64 x14.vcpu, .bool x14.on]) 51], [bx (γ6 0) (#[.slice qp mp cp]) 24], [bx (γ1 0) (#[.slice p n cap]) 24], [bx g297 ((cs297).setIfInBounds (0 + k9 * 5) (.int .i64 99)) 40], Y289, Y126, Y146, Y22, Yp] [0, 1, 2, 3, 4, 5, 6, 8, 9, 10, 7, 11, 12] [] (bx (γ290 0) (#[.slice q289 m146 cq289]) 24 :: bx (γ186 0) (#[.slice q146 m146 cq146, .int .i64 ((runV lp x14).2.1), .bool ((runV lp x14).2.2.1), .int .i64 ((runV lp x14).2.2.2)]) 53 :: bx (γ166 0) (#[.slice (some ⟨g297, 0, none⟩) m66 cq66, .int .i64 ((runV lp x14).2.1), .bool ((runV lp x14).2.2.1), .int .i64 ((runV lp x14).2.2.2)]) 53 :: bx (γ23 0) (#[.slice q22 m22 cq22]) 24 :: bx (γ15 0) (#[.int .i64 x14.kind, .int .i64 x14.a, .int .i64 x14.b, .int .i64 x14.vcpu, .bool x14.on]) 51 :: bx (γ6 0) (#[.slice qp mp cp]) 24 :: bx (γ1 0) (#[.slice p n cap]) 24 :: (Y289 ++ (Y126 ++ (Y146 ++ ([bx g297 ((cs297).setIfInBounds (0 + k9 * 5) (.int .i64 99)) 40] ++ (Y22 ++ (Yp ++ []))))))) (by kernel_rfl) rfl rfl ?_))))
    exact dr [5, 8, 9, 11, 17, 18, 19, 74, 75] (k9 + 1, [bx g297 ((cs297).setIfInBounds (0 + k9 * 5) (.int .i64 99)) 40]) ⟨by omega, by rw [← mix_put hx299 (show numF x299 = _ from rfl)]; exact (SlO.ofOwn (hOw297.put (x' := (⟨99, x299.vcpu, x299.peer, x299.pending, x299.masked⟩ : Port)) hT.len hx299 (f := 0) (by decide) rfl) (len_set hT.len))⟩
   ·
    refine qa [(0, .no)] [5, 8, 9, 11, 17, 18, 19, 74, 75] [(76, .bool false)] ([¬ (((k9 : Nat) : Int) < ((m66 : Nat) : Int))]) (al1 q293) (ds_ (sq_ (f_ (at_leave _ rfl (ds_ (sq_ (sq_ (ao_ (qo0 2 [(0, .go (owns 5 0 1)), (1, .go (owns 3 0 1))] [5, 9, 11, 17, 18, 19] [(85, .agg #[.slice qp mp cp]), (86, .agg #[.slice q22 m22 cq22])] (cD (.bool true) Try.call15 (fun w hw => by have := rsame_d qp mp cp lp q22 m22 cq22 lp w (hP.at ((hw.tailN 7).sub (((((List.sublist_append_right Y22 _).trans (List.sublist_append_right Yt _)).trans (List.sublist_append_right Y146 _)).trans (List.sublist_append_right Y126 _)).trans (List.sublist_append_right Y289 _)))) hP.len (by omega) (hO22.at ((hw.tailN 7).sub ((((List.sublist_append_right Yt _).trans (List.sublist_append_right Y146 _)).trans (List.sublist_append_right Y126 _)).trans (List.sublist_append_right Y289 _)))) hO22.len (by omega); simpa using this) (qo0 1 [] [5, 9, 11, 17, 18, 19] [(88, .bool false)] (on_ (ds_ (f_ (at_skip (ds_ (sq_ ?_)))))))))))))))))
    by_cases q306 : ((runV lp x14).2.2.2 : Int) = (0 : Int)
    ·
     refine qa [(1, .go (owns 2 3 1)), (2, .yes)] [5, 11, 17, 18, 19] [(91, .bool true)] ([((runV lp x14).2.2.2 : Int) = (0 : Int)]) (al1 q306) (ds_ (t_ ?_))
     have hgl := good_len (run_good q306)
     have hcl := hO289.len
     refine ma0 [(0, .go (owns 0 0 1)), (1, .go (owns 5 0 1))] [5, 17, 18, 19] (fun _ => []) (fun _ L => (L.set 5 (bx (γ6 0) (#[.slice q289 m146 cq289]) 24))) (fun _ => done_block (ds_ (qa [(0, .fit)] [5, 17, 18] [(19, .int .i64 ((j + 1 : Nat)))] ([Fit .i64 ((j + 1 : Nat))]) (al1 (fit64 (by omega) (by omega))) (Done.pick [[bx (γ290 0) (#[.slice q289 m146 cq289]) 24], [bx (γ186 0) (#[.slice q146 m146 cq146, .int .i64 ((runV lp x14).2.1), .bool ((runV lp x14).2.2.1), .int .i64 ((runV lp x14).2.2.2)]) 53], [bx (γ166 0) (#[.slice q66 m66 cq66, .int .i64 ((runV lp x14).2.1), .bool ((runV lp x14).2.2.1), .int .i64 ((runV lp x14).2.2.2)]) 53], [bx (γ23 0) (#[.slice q22 m22 cq22]) 24], [bx (γ15 0) (#[.int .i64 x14.kind, .int .i64 x14.a, .int .i64 x14.b, .int .i64 x14.vcpu, .bool x14.on]) 51], [bx (γ6 0) (#[.slice q289 m146 cq289]) 24], [bx (γ1 0) (#[.slice p n cap]) 24], Y289, Y126, Y146, Yt, Y22, Yp] [5, 6, 7] [0, 1, 2, 3, 4, 8, 9, 10, 11, 12] (bx (γ6 0) (#[.slice q289 m146 cq289]) 24 :: bx (γ1 0) (#[.slice p n cap]) 24 :: (Y289 ++ [])) (by kernel_rfl) rfl rfl ?_))))
     exact dr [5, 17, 18, 19] (j + 1, (runV lp x14).1, Y289, q289, m146, cq289) ⟨by omega, by omega, hO289⟩
    ·
     refine qa [(1, .go (owns 2 3 1)), (2, .no)] [5, 11, 17, 18, 19] [(91, .bool false)] ([¬ (((runV lp x14).2.2.2 : Int) = (0 : Int))]) (al1 q306) (ds_ (f_ (at_skip (done_block (ds_ (qa [(0, .fit)] [5, 17, 18] [(19, .int .i64 ((j + 1 : Nat)))] ([Fit .i64 ((j + 1 : Nat))]) (al1 (fit64 (by omega) (by omega))) (Done.pick [[bx (γ290 0) (#[.slice q289 m146 cq289]) 24], [bx (γ186 0) (#[.slice q146 m146 cq146, .int .i64 ((runV lp x14).2.1), .bool ((runV lp x14).2.2.1), .int .i64 ((runV lp x14).2.2.2)]) 53], [bx (γ166 0) (#[.slice q66 m66 cq66, .int .i64 ((runV lp x14).2.1), .bool ((runV lp x14).2.2.1), .int .i64 ((runV lp x14).2.2.2)]) 53], [bx (γ23 0) (#[.slice q22 m22 cq22]) 24], [bx (γ15 0) (#[.int .i64 x14.kind, .int .i64 x14.a, .int .i64 x14.b, .int .i64 x14.vcpu, .bool x14.on]) 51], [bx (γ6 0) (#[.slice qp mp cp]) 24], [bx (γ1 0) (#[.slice p n cap]) 24], Y289, Y126, Y146, Yt, Y22, Yp] [5, 6, 12] [0, 1, 2, 3, 4, 7, 8, 9, 10, 11] (bx (γ6 0) (#[.slice qp mp cp]) 24 :: bx (γ1 0) (#[.slice p n cap]) 24 :: (Yp ++ [])) (by kernel_rfl) rfl rfl ?_)))))))
     exact dr [5, 17, 18, 19] (j + 1, lp, Yp, qp, mp, cp) ⟨by omega, by omega, hP⟩
 ·
  refine qa [(0, .no)] [5, 17, 18, 19] [(20, .bool false)] ([¬ (((j : Nat) : Int) < ((m : Nat) : Int))]) (al1 q9) (ds_ (sq_ (f_ (at_leave _ rfl (ds_ (sq_ (qa0 [] [] [(4, .bool true)] (ds_ (rt ([]) (.bool true) ?_)))))))))
  exact fun w' hw => ⟨rfl, hw.below⟩
end Go.Proofs.Ytfhlmijdokfdpaa
