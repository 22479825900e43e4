/- Texts of this proof, one behind the other. -/
import Derived.Test.YtdbamgbgnpadjaaZe
import Derived.Test.YtdbamgbgnpadjaaZa
import Derived.ProofKit
import Derived.Carry
import Derived.Deep.Slices
import Derived.Lib.SmallJoins
import Derived.Test.YtdbamgbgnpadjaaZd
import Derived.Test.YtdbamgbgnpadjaaProg
/-! The statement VtimerStops, walked. -/
namespace Go.Proofs.Ytdbamgbgnpadjaa
open Go Go.RowKit

set_option maxHeartbeats 1000000 in
set_option maxRecDepth 100000 in
theorem stops_law (now : Int) (p : Option Addr) (n cap : Nat) (ts : List Tim) (pa : Option Addr) (na ca : Nat) (rs : List Alm) (o : OpA8) (w : World)
 (hts : Sv w p ts) (hn : n = ts.length) (hcp : n ≤ cap) (hbg : cap ≤ 9223372036854775807)
 (hrs : Sv w pa rs) (hna : na = rs.length) (hca : na ≤ ca) (hbga : ca ≤ 9223372036854775807)
 : Calls Try.prog 6 #[.agg #[.int .i64 now, .slice p n cap, .slice pa na ca], .agg #[.int .i64 o.kind, .int .i64 o.vcpu, .int .i64 o.al.vcpu, .int .i64 o.al.port, .int .i64 o.al.every, .int .i64 o.time, .bool o.on]] w fun e w' => e = .returned (.bool true) ∧ Below w.heap.size w w' := by
 refine enter (Hs.start w) Try.func6 rfl Try.ntmps6 rfl (sq_ (ma0 [] [] (fun γ1 => [(2, .pointer (some ⟨γ1 0, 0, none⟩)), (3, .pointer (some ⟨γ1 1, 0, none⟩))]) (fun γ1 L => bx (γ1 1) (#[.int .i64 o.kind, .int .i64 o.vcpu, .int .i64 o.al.vcpu, .int .i64 o.al.port, .int .i64 o.al.every, .int .i64 o.time, .bool o.on]) 58 :: bx (γ1 0) (#[.int .i64 now, .slice p n cap, .slice pa na ca]) 27 :: L) (fun γ1 => ds_ (sq_ (sq_ (ao_ (cD (.bool true) Try.call7 (fun w hw => awakes_t w) (qo0 1 [] [2, 3] [(31, .bool false)] (on_ (ds_ (f_ (at_skip (ds_ (sq_ (ao_ (qo0 1 [(0, .go (owns 1 0 3))] [3] [(32, .agg #[.int .i64 now, .slice p n cap, .slice pa na ca])] (cP (fun v L' => ∃ q_ m_ c_ Y_ q2_ m2_ c2_ X_, v = .agg #[.int .i64 now, .slice q_ m_ c_, .slice q2_ m2_ c2_] ∧ L' = List.take 2 ([bx (γ1 1) (#[.int .i64 o.kind, .int .i64 o.vcpu, .int .i64 o.al.vcpu, .int .i64 o.al.port, .int .i64 o.al.every, .int .i64 o.time, .bool o.on]) 58, bx (γ1 0) (#[.int .i64 now, .slice p n cap, .slice pa na ca]) 27]) ++ (Y_ ++ (X_ ++ List.drop 2 ([bx (γ1 1) (#[.int .i64 o.kind, .int .i64 o.vcpu, .int .i64 o.al.vcpu, .int .i64 o.al.port, .int .i64 o.al.every, .int .i64 o.time, .bool o.on]) 58, bx (γ1 0) (#[.int .i64 now, .slice p n cap, .slice pa na ca]) 27]))) ∧ SlO 88 Y_ q_ m_ c_ (shT ts) ∧ SlO 47 X_ q2_ m2_ c2_ (shR rs)) Try.call8 (fun w hw => (short_t now p n cap ts pa na ca rs w (hts.kept hw.below) hn (by omega) (by omega) (hrs.kept hw.below) hna (by omega) (by omega)).mono fun e w' ⟨q_, m_, c_, Y_, q2_, m2_, c2_, X_, he, h1, h2, hb, hY⟩ => ⟨_, _, he, ⟨q_, m_, c_, Y_, q2_, m2_, c2_, X_, rfl, rfl, h1, h2⟩, hw.joinT hb hY 2⟩) ?_)))))))))))))))))
 rintro v5 L5 ⟨q5, m5, c5, Y5, p5, k5, d5, Yx5, rfl, rfl, hO5, hP5⟩
 have hm5 := hO5.len
 have hn5 := hP5.len
 have hsh5 := shT_len (ts := ts)
 have hsr5 := shR_len (rs := rs)
 refine mo0 2 [(3, .go (owns 0 0 3))] [3] (fun γ6 => [(5, .pointer (some ⟨γ6 0, 0, none⟩))]) (fun γ6 L => bx (γ6 0) (#[.int .i64 now, .slice q5 m5 c5, .slice p5 k5 d5]) 27 :: L) (fun γ6 => on_ (ds_ (sq_ (sq_ (ao_ (qo0 1 [(0, .go (owns 0 0 3))] [3, 5] [(34, .agg #[.int .i64 now, .slice q5 m5 c5, .slice p5 k5 d5])] ?_))))))
 rcases q8 : alB now ((shT ts)) ((shR rs)) with _ | _
 ·
  refine cD (.int .i64 280) Try.call9 (fun w hw => by have := acheck_t now q5 m5 c5 ((shT ts)) p5 k5 d5 ((shR rs)) w (hO5.atN (A := [_, _, _]) hw) hO5.len (by omega) (hP5.atN (A := (_ :: _ :: _ :: Y5)) hw) hP5.len (by omega); rw [q8] at this; exact this) (qo0 1 [] [3, 5] [(36, .bool true)] (on_ (ds_ (t_ (sq_ (qa0 [] [] [(4, .bool true)] (ds_ (rt ([]) (.bool true) ?_))))))))
  exact fun w' hw => ⟨rfl, hw.below⟩
 ·
  refine cD (.int .i64 0) Try.call9 (fun w hw => by have := acheck_t now q5 m5 c5 ((shT ts)) p5 k5 d5 ((shR rs)) w (hO5.atN (A := [_, _, _]) hw) hO5.len (by omega) (hP5.atN (A := (_ :: _ :: _ :: Y5)) hw) hP5.len (by omega); rw [q8] at this; exact this) (qo0 1 [] [3, 5] [(36, .bool false)] (on_ (ds_ (f_ (at_skip (ds_ (sq_ ?_)))))))
  have hgA := al_iff.1 q8
  have hn0 := hgA.gw.n0
  have hn1 := hgA.gw.n1
  have hl0 := hgA.gw.len
  have hl0r := hgA.rl
  refine at_any (by kernel_rfl) ?_
  refine tk (m := 12) [1] [] [3, 5] [(39, .pointer (some ⟨γ1 1, 2, none⟩))] ([]) #[false, true, false, false, false, false, false, false, false, false, false, false, false] al0 ?_
  refine any_cutX (V := (List Ob) × (List Ob) × (Nat) × (Nat) × (Int) × (Nat) × (Nat) × (Int) × (Option Addr) × (Option Addr) × (List Alm) × (List Tim) × (Nat → Nat)) (fun ⟨Y135, Yx135, c135, d135, er135, k135, m135, nw135, p135, q135, rl135, tl135, γ215⟩ => startV now (shT ts) (shR rs) o.al (otV now o.on o.time) = (nw135, tl135, rl135, er135) ∧ SlO 88 Y135 q135 m135 c135 tl135 ∧ SlO 47 Yx135 p135 k135 d135 rl135) 0 #[true, true, true, true, true, true, true, true, true, true, true, true, true] (fun ⟨Y135, Yx135, c135, d135, er135, k135, m135, nw135, p135, q135, rl135, tl135, γ215⟩ => [(3, .pointer (some ⟨γ1 1, 0, none⟩)), (5, .pointer (some ⟨γ6 0, 0, none⟩)), (6, .pointer (some ⟨γ215 0, 0, none⟩)), (7, .int .i64 er135)]) (fun ⟨Y135, Yx135, c135, d135, er135, k135, m135, nw135, p135, q135, rl135, tl135, γ215⟩ => bx (γ215 0) (#[.int .i64 nw135, .slice q135 m135 c135, .slice p135 k135 d135]) 27 :: bx (γ6 0) (#[.int .i64 now, .slice q5 m5 c5, .slice p5 k5 d5]) 27 :: bx (γ1 1) (#[.int .i64 o.kind, .int .i64 o.vcpu, .int .i64 o.al.vcpu, .int .i64 o.al.port, .int .i64 o.al.every, .int .i64 o.time, .bool o.on]) 58 :: bx (γ1 0) (#[.int .i64 now, .slice p n cap, .slice pa na ca]) 27 :: (Y135 ++ (Yx135 ++ (Y5 ++ (Yx5 ++ []))))) ?_ (fun hmx42 => ?_)
  rotate_left
  ·
   refine any_cutX (V := (List Ob) × (List Ob) × (Nat) × (Nat) × (Int) × (Nat) × (Nat) × (Int) × (Option Addr) × (Option Addr) × (List Alm) × (List Tim) × (Nat → Nat)) (fun ⟨Y135, Yx135, c135, d135, er135, k135, m135, nw135, p135, q135, rl135, tl135, γ215⟩ => startV now (shT ts) (shR rs) o.al (otV now o.on o.time) = (nw135, tl135, rl135, er135) ∧ SlO 88 Y135 q135 m135 c135 tl135 ∧ SlO 47 Yx135 p135 k135 d135 rl135) 2 #[true, true, true, true, true, true, true, true, true, true, true, false, false] (fun ⟨Y135, Yx135, c135, d135, er135, k135, m135, nw135, p135, q135, rl135, tl135, γ215⟩ => [(3, .pointer (some ⟨γ1 1, 0, none⟩)), (5, .pointer (some ⟨γ6 0, 0, none⟩)), (6, .pointer (some ⟨γ215 0, 0, none⟩)), (45, .agg #[.int .i64 nw135, .slice q135 m135 c135, .slice p135 k135 d135]), (46, .int .i64 er135)]) (fun ⟨Y135, Yx135, c135, d135, er135, k135, m135, nw135, p135, q135, rl135, tl135, γ215⟩ => bx (γ215 0) (#[.int .i64 0, .slice none 0 0, .slice none 0 0]) 27 :: bx (γ6 0) (#[.int .i64 now, .slice q5 m5 c5, .slice p5 k5 d5]) 27 :: bx (γ1 1) (#[.int .i64 o.kind, .int .i64 o.vcpu, .int .i64 o.al.vcpu, .int .i64 o.al.port, .int .i64 o.al.every, .int .i64 o.time, .bool o.on]) 58 :: bx (γ1 0) (#[.int .i64 now, .slice p n cap, .slice pa na ca]) 27 :: (Y135 ++ (Yx135 ++ (Y5 ++ (Yx5 ++ []))))) ?_ (fun hmx41 => ?_)
   ·
    rintro ⟨Y135, Yx135, c135, d135, er135, k135, m135, nw135, p135, q135, rl135, tl135, γ215⟩ ⟨hE135, hO135, hP135⟩
    refine a1 11 rfl ?_
    refine mo0 1 [(11, .go (owns 0 0 3))] [3, 5, 6, 46] (fun _ => []) (fun _ L => (L.set 0 (bx (γ215 0) (#[.int .i64 nw135, .slice q135 m135 c135, .slice p135 k135 d135]) 27))) (fun _ => ?_)
    refine od_ ?_
    refine tk (m := 0) [12] [] [3, 5, 6] [(7, .int .i64 er135)] ([]) #[true, true, true, true, true, true, true, true, true, true, true, true, true] al0 ?_
    exact wk (hmx42 (Y135, Yx135, c135, d135, er135, k135, m135, nw135, p135, q135, rl135, tl135, γ215) ⟨hE135, hO135, hP135⟩) [3, 5, 6, 7] [[_], [_], [_], [_], _, _, _, _] [0, 1, 2, 3, 4, 5, 6, 7] rfl rfl
   refine any_cutX (V := (List Ob) × (List Ob) × (Nat) × (Nat) × (Int) × (Nat) × (Nat) × (Int) × (Option Addr) × (Option Addr) × (List Alm) × (List Tim)) (fun ⟨Y135, Yx135, c135, d135, er135, k135, m135, nw135, p135, q135, rl135, tl135⟩ => startV now (shT ts) (shR rs) o.al (otV now o.on o.time) = (nw135, tl135, rl135, er135) ∧ SlO 88 Y135 q135 m135 c135 tl135 ∧ SlO 47 Yx135 p135 k135 d135 rl135) 3 #[true, true, true, true, true, true, true, true, true, true, false, false, false] (fun ⟨Y135, Yx135, c135, d135, er135, k135, m135, nw135, p135, q135, rl135, tl135⟩ => [(3, .pointer (some ⟨γ1 1, 0, none⟩)), (5, .pointer (some ⟨γ6 0, 0, none⟩)), (45, .agg #[.int .i64 nw135, .slice q135 m135 c135, .slice p135 k135 d135]), (46, .int .i64 er135)]) (fun ⟨Y135, Yx135, c135, d135, er135, k135, m135, nw135, p135, q135, rl135, tl135⟩ => bx (γ6 0) (#[.int .i64 now, .slice q5 m5 c5, .slice p5 k5 d5]) 27 :: bx (γ1 1) (#[.int .i64 o.kind, .int .i64 o.vcpu, .int .i64 o.al.vcpu, .int .i64 o.al.port, .int .i64 o.al.every, .int .i64 o.time, .bool o.on]) 58 :: bx (γ1 0) (#[.int .i64 now, .slice p n cap, .slice pa na ca]) 27 :: (Y135 ++ (Yx135 ++ (Y5 ++ (Yx5 ++ []))))) ?_ (fun hmx40 => ?_)
   ·
    rintro ⟨Y135, Yx135, c135, d135, er135, k135, m135, nw135, p135, q135, rl135, tl135⟩ ⟨hE135, hO135, hP135⟩
    refine a1 10 rfl ?_
    refine mo0 1 [] [3, 5, 45, 46] (fun γ215 => [(6, .pointer (some ⟨γ215 0, 0, none⟩))]) (fun γ215 L => bx (γ215 0) (#[.int .i64 0, .slice none 0 0, .slice none 0 0]) 27 :: L) (fun γ215 => ?_)
    refine od_ ?_
    exact wk (hmx41 (Y135, Yx135, c135, d135, er135, k135, m135, nw135, p135, q135, rl135, tl135, γ215) ⟨hE135, hO135, hP135⟩) [3, 5, 6, 45, 46] [[_], [_], [_], [_], _, _, _, _] [0, 1, 2, 3, 4, 5, 6, 7] rfl rfl
   refine any_cutX (V := (Nat → Nat)) (fun γ215 => True) 6 #[true, true, true, true, true, true, false, false, false, false, true, false, false] (fun γ215 => [(3, .pointer (some ⟨γ1 1, 0, none⟩)), (5, .pointer (some ⟨γ6 0, 0, none⟩)), (6, .pointer (some ⟨γ215 0, 0, none⟩)), (38, .agg #[.int .i64 now, .slice q5 m5 c5, .slice p5 k5 d5]), (40, .agg #[.int .i64 o.al.vcpu, .int .i64 o.al.port, .int .i64 o.al.every]), (43, .int .i64 ((otV now o.on o.time)))]) (fun γ215 => bx (γ215 0) (#[.int .i64 0, .slice none 0 0, .slice none 0 0]) 27 :: bx (γ6 0) (#[.int .i64 now, .slice q5 m5 c5, .slice p5 k5 d5]) 27 :: bx (γ1 1) (#[.int .i64 o.kind, .int .i64 o.vcpu, .int .i64 o.al.vcpu, .int .i64 o.al.port, .int .i64 o.al.every, .int .i64 o.time, .bool o.on]) 58 :: bx (γ1 0) (#[.int .i64 now, .slice p n cap, .slice pa na ca]) 27 :: (Y5 ++ (Yx5 ++ []))) ?_ (fun hmx39 => ?_)
   ·
    rintro γ215 _
    refine a1 6 rfl ?_
    refine cP (fun v L' => ∃ nw_ tl_ rl_ er_ q_ m_ c_ Y_ q2_ m2_ c2_ X_, v = .tuple #[.agg #[.int .i64 nw_, .slice q_ m_ c_, .slice q2_ m2_ c2_], .int .i64 er_] ∧ L' = List.take 4 (bx (γ215 0) (#[.int .i64 0, .slice none 0 0, .slice none 0 0]) 27 :: bx (γ6 0) (#[.int .i64 now, .slice q5 m5 c5, .slice p5 k5 d5]) 27 :: bx (γ1 1) (#[.int .i64 o.kind, .int .i64 o.vcpu, .int .i64 o.al.vcpu, .int .i64 o.al.port, .int .i64 o.al.every, .int .i64 o.time, .bool o.on]) 58 :: bx (γ1 0) (#[.int .i64 now, .slice p n cap, .slice pa na ca]) 27 :: (Y5 ++ (Yx5 ++ []))) ++ (Y_ ++ (X_ ++ List.drop 4 (bx (γ215 0) (#[.int .i64 0, .slice none 0 0, .slice none 0 0]) 27 :: bx (γ6 0) (#[.int .i64 now, .slice q5 m5 c5, .slice p5 k5 d5]) 27 :: bx (γ1 1) (#[.int .i64 o.kind, .int .i64 o.vcpu, .int .i64 o.al.vcpu, .int .i64 o.al.port, .int .i64 o.al.every, .int .i64 o.time, .bool o.on]) 58 :: bx (γ1 0) (#[.int .i64 now, .slice p n cap, .slice pa na ca]) 27 :: (Y5 ++ (Yx5 ++ []))))) ∧ SlO 88 Y_ q_ m_ c_ tl_ ∧ SlO 47 X_ q2_ m2_ c2_ rl_ ∧ startV now (shT ts) (shR rs) o.al (otV now o.on o.time) = (nw_, tl_, rl_, er_)) Try.call21 (fun w hw => (start_t now q5 m5 c5 ((shT ts)) p5 k5 d5 ((shR rs)) o.al (otV now o.on o.time) w (hO5.atN (A := [_, _, _, _]) hw) hO5.len (by omega) (hP5.atN (A := (_ :: _ :: _ :: _ :: Y5)) hw) hP5.len (by omega)).mono fun e w' ⟨q_, m_, c_, Y_, q2_, m2_, c2_, X_, he, h1, h2, hb, hY⟩ => ⟨_, _, he, ⟨_, _, _, _, q_, m_, c_, Y_, q2_, m2_, c2_, X_, rfl, rfl, h1, h2, rfl⟩, hw.joinT hb hY 4⟩) ?_
    rintro v135 L135 ⟨nw135, tl135, rl135, er135, q135, m135, c135, Y135, p135, k135, d135, Yx135, rfl, rfl, hO135, hP135, hE135⟩
    refine od_ ?_
    refine tk (m := 2) [7, 8, 9] [] [3, 5, 6] [(45, .agg #[.int .i64 nw135, .slice q135 m135 c135, .slice p135 k135 d135]), (46, .int .i64 er135)] ([]) #[true, true, true, true, true, true, true, true, true, true, true, false, false] al0 ?_
    exact wk (hmx41 (Y135, Yx135, c135, d135, er135, k135, m135, nw135, p135, q135, rl135, tl135, γ215) ⟨hE135, hO135, hP135⟩) [3, 5, 6, 45, 46] [[_], [_], [_], [_], _, _, _, _] [0, 1, 2, 3, 4, 5, 6, 7] rfl rfl
   refine any_cutX (V := (Nat → Nat)) (fun γ215 => True) 7 #[false, true, true, true, true, true, false, false, false, false, true, false, false] (fun γ215 => [(3, .pointer (some ⟨γ1 1, 0, none⟩)), (5, .pointer (some ⟨γ6 0, 0, none⟩)), (6, .pointer (some ⟨γ215 0, 0, none⟩)), (40, .agg #[.int .i64 o.al.vcpu, .int .i64 o.al.port, .int .i64 o.al.every]), (43, .int .i64 ((otV now o.on o.time)))]) (fun γ215 => bx (γ215 0) (#[.int .i64 0, .slice none 0 0, .slice none 0 0]) 27 :: bx (γ6 0) (#[.int .i64 now, .slice q5 m5 c5, .slice p5 k5 d5]) 27 :: bx (γ1 1) (#[.int .i64 o.kind, .int .i64 o.vcpu, .int .i64 o.al.vcpu, .int .i64 o.al.port, .int .i64 o.al.every, .int .i64 o.time, .bool o.on]) 58 :: bx (γ1 0) (#[.int .i64 now, .slice p n cap, .slice pa na ca]) 27 :: (Y5 ++ (Yx5 ++ []))) ?_ (fun hmx38 => ?_)
   ·
    rintro γ215 _
    refine a1 0 rfl ?_
    refine qo0 1 [(0, .go (owns 1 0 3))] [3, 5, 6, 40, 43] [(38, .agg #[.int .i64 now, .slice q5 m5 c5, .slice p5 k5 d5])] ?_
    refine od_ ?_
    exact wk (hmx39 γ215 trivial) [3, 5, 6, 38, 40, 43] [[_], [_], [_], [_], _, _] [0, 1, 2, 3, 4, 5] rfl rfl
   refine any_cutX (V := (Nat → Nat)) (fun γ215 => True) 7 #[true, true, false, true, true, true, false, false, false, false, true, false, false] (fun γ215 => [(3, .pointer (some ⟨γ1 1, 0, none⟩)), (5, .pointer (some ⟨γ6 0, 0, none⟩)), (6, .pointer (some ⟨γ215 0, 0, none⟩)), (38, .agg #[.int .i64 now, .slice q5 m5 c5, .slice p5 k5 d5]), (39, .pointer (some ⟨γ1 1, 2, none⟩)), (43, .int .i64 ((otV now o.on o.time)))]) (fun γ215 => bx (γ215 0) (#[.int .i64 0, .slice none 0 0, .slice none 0 0]) 27 :: bx (γ6 0) (#[.int .i64 now, .slice q5 m5 c5, .slice p5 k5 d5]) 27 :: bx (γ1 1) (#[.int .i64 o.kind, .int .i64 o.vcpu, .int .i64 o.al.vcpu, .int .i64 o.al.port, .int .i64 o.al.every, .int .i64 o.time, .bool o.on]) 58 :: bx (γ1 0) (#[.int .i64 now, .slice p n cap, .slice pa na ca]) 27 :: (Y5 ++ (Yx5 ++ []))) ?_ (fun hmx37 => ?_)
   ·
    rintro γ215 _
    refine a1 2 rfl ?_
    refine qo0 1 [(2, .go (owns 2 2 3))] [3, 5, 6, 38, 43] [(40, .agg #[.int .i64 o.al.vcpu, .int .i64 o.al.port, .int .i64 o.al.every])] ?_
    refine od_ ?_
    exact wk (hmx39 γ215 trivial) [3, 5, 6, 38, 40, 43] [[_], [_], [_], [_], _, _] [0, 1, 2, 3, 4, 5] rfl rfl
   refine any_cutX (V := (Nat → Nat)) (fun γ215 => True) 7 #[true, true, true, true, true, false, false, false, false, false, true, false, false] (fun γ215 => [(3, .pointer (some ⟨γ1 1, 0, none⟩)), (5, .pointer (some ⟨γ6 0, 0, none⟩)), (6, .pointer (some ⟨γ215 0, 0, none⟩)), (38, .agg #[.int .i64 now, .slice q5 m5 c5, .slice p5 k5 d5]), (40, .agg #[.int .i64 o.al.vcpu, .int .i64 o.al.port, .int .i64 o.al.every]), (41, .agg #[.int .i64 o.kind, .int .i64 o.vcpu, .int .i64 o.al.vcpu, .int .i64 o.al.port, .int .i64 o.al.every, .int .i64 o.time, .bool o.on]), (42, .agg #[.int .i64 now, .slice q5 m5 c5, .slice p5 k5 d5])]) (fun γ215 => bx (γ215 0) (#[.int .i64 0, .slice none 0 0, .slice none 0 0]) 27 :: bx (γ6 0) (#[.int .i64 now, .slice q5 m5 c5, .slice p5 k5 d5]) 27 :: bx (γ1 1) (#[.int .i64 o.kind, .int .i64 o.vcpu, .int .i64 o.al.vcpu, .int .i64 o.al.port, .int .i64 o.al.every, .int .i64 o.time, .bool o.on]) 58 :: bx (γ1 0) (#[.int .i64 now, .slice p n cap, .slice pa na ca]) 27 :: (Y5 ++ (Yx5 ++ []))) ?_ (fun hmx36 => ?_)
   ·
    rintro γ215 _
    refine a1 5 rfl ?_
    refine cD (.int .i64 ((otV now o.on o.time))) Try.call22 (fun w hw => ot_t o now q5 m5 c5 ((shT ts)) p5 k5 d5 ((shR rs)) w hn0 hn1) ?_
    refine od_ ?_
    exact wk (hmx39 γ215 trivial) [3, 5, 6, 38, 40, 43] [[_], [_], [_], [_], _, _] [0, 1, 2, 3, 4, 5] rfl rfl
   refine any_cutX (V := Unit) (fun _ => True) 7 #[true, true, true, true, true, true, false, false, false, false, false, false, false] (fun _ => [(3, .pointer (some ⟨γ1 1, 0, none⟩)), (5, .pointer (some ⟨γ6 0, 0, none⟩)), (38, .agg #[.int .i64 now, .slice q5 m5 c5, .slice p5 k5 d5]), (40, .agg #[.int .i64 o.al.vcpu, .int .i64 o.al.port, .int .i64 o.al.every]), (43, .int .i64 ((otV now o.on o.time)))]) (fun _ => bx (γ6 0) (#[.int .i64 now, .slice q5 m5 c5, .slice p5 k5 d5]) 27 :: bx (γ1 1) (#[.int .i64 o.kind, .int .i64 o.vcpu, .int .i64 o.al.vcpu, .int .i64 o.al.port, .int .i64 o.al.every, .int .i64 o.time, .bool o.on]) 58 :: bx (γ1 0) (#[.int .i64 now, .slice p n cap, .slice pa na ca]) 27 :: (Y5 ++ (Yx5 ++ []))) ?_ (fun hmx35 => ?_)
   ·
    rintro _ _
    refine any_fork [6, 10] (by kernel_rfl) (by simp) (each_cons _ rfl ?_ (each_cons _ rfl ?_ (each_nil)))
    ·
     refine cP (fun v L' => ∃ nw_ tl_ rl_ er_ q_ m_ c_ Y_ q2_ m2_ c2_ X_, v = .tuple #[.agg #[.int .i64 nw_, .slice q_ m_ c_, .slice q2_ m2_ c2_], .int .i64 er_] ∧ L' = List.take 3 (bx (γ6 0) (#[.int .i64 now, .slice q5 m5 c5, .slice p5 k5 d5]) 27 :: bx (γ1 1) (#[.int .i64 o.kind, .int .i64 o.vcpu, .int .i64 o.al.vcpu, .int .i64 o.al.port, .int .i64 o.al.every, .int .i64 o.time, .bool o.on]) 58 :: bx (γ1 0) (#[.int .i64 now, .slice p n cap, .slice pa na ca]) 27 :: (Y5 ++ (Yx5 ++ []))) ++ (Y_ ++ (X_ ++ List.drop 3 (bx (γ6 0) (#[.int .i64 now, .slice q5 m5 c5, .slice p5 k5 d5]) 27 :: bx (γ1 1) (#[.int .i64 o.kind, .int .i64 o.vcpu, .int .i64 o.al.vcpu, .int .i64 o.al.port, .int .i64 o.al.every, .int .i64 o.time, .bool o.on]) 58 :: bx (γ1 0) (#[.int .i64 now, .slice p n cap, .slice pa na ca]) 27 :: (Y5 ++ (Yx5 ++ []))))) ∧ SlO 88 Y_ q_ m_ c_ tl_ ∧ SlO 47 X_ q2_ m2_ c2_ rl_ ∧ startV now (shT ts) (shR rs) o.al (otV now o.on o.time) = (nw_, tl_, rl_, er_)) Try.call21 (fun w hw => (start_t now q5 m5 c5 ((shT ts)) p5 k5 d5 ((shR rs)) o.al (otV now o.on o.time) w (hO5.atN (A := [_, _, _]) hw) hO5.len (by omega) (hP5.atN (A := (_ :: _ :: _ :: Y5)) hw) hP5.len (by omega)).mono fun e w' ⟨q_, m_, c_, Y_, q2_, m2_, c2_, X_, he, h1, h2, hb, hY⟩ => ⟨_, _, he, ⟨_, _, _, _, q_, m_, c_, Y_, q2_, m2_, c2_, X_, rfl, rfl, h1, h2, rfl⟩, hw.joinT hb hY 3⟩) ?_
     rintro v135 L135 ⟨nw135, tl135, rl135, er135, q135, m135, c135, Y135, p135, k135, d135, Yx135, rfl, rfl, hO135, hP135, hE135⟩
     refine od_ ?_
     refine tk (m := 3) [7, 8, 9] [] [3, 5] [(45, .agg #[.int .i64 nw135, .slice q135 m135 c135, .slice p135 k135 d135]), (46, .int .i64 er135)] ([]) #[true, true, true, true, true, true, true, true, true, true, false, false, false] al0 ?_
     exact wk (hmx40 (Y135, Yx135, c135, d135, er135, k135, m135, nw135, p135, q135, rl135, tl135) ⟨hE135, hO135, hP135⟩) [3, 5, 45, 46] [[_], [_], [_], _, _, _, _] [0, 1, 2, 3, 4, 5, 6] rfl rfl
    ·
     refine mo0 1 [] [3, 5, 38, 40, 43] (fun γ215 => [(6, .pointer (some ⟨γ215 0, 0, none⟩))]) (fun γ215 L => bx (γ215 0) (#[.int .i64 0, .slice none 0 0, .slice none 0 0]) 27 :: L) (fun γ215 => ?_)
     refine od_ ?_
     exact wk (hmx39 γ215 trivial) [3, 5, 6, 38, 40, 43] [[_], [_], [_], [_], _, _] [0, 1, 2, 3, 4, 5] rfl rfl
   refine any_cutX (V := (Nat → Nat)) (fun γ215 => True) 8 #[false, true, false, true, true, true, false, false, false, false, true, false, false] (fun γ215 => [(3, .pointer (some ⟨γ1 1, 0, none⟩)), (5, .pointer (some ⟨γ6 0, 0, none⟩)), (6, .pointer (some ⟨γ215 0, 0, none⟩)), (39, .pointer (some ⟨γ1 1, 2, none⟩)), (43, .int .i64 ((otV now o.on o.time)))]) (fun γ215 => bx (γ215 0) (#[.int .i64 0, .slice none 0 0, .slice none 0 0]) 27 :: bx (γ6 0) (#[.int .i64 now, .slice q5 m5 c5, .slice p5 k5 d5]) 27 :: bx (γ1 1) (#[.int .i64 o.kind, .int .i64 o.vcpu, .int .i64 o.al.vcpu, .int .i64 o.al.port, .int .i64 o.al.every, .int .i64 o.time, .bool o.on]) 58 :: bx (γ1 0) (#[.int .i64 now, .slice p n cap, .slice pa na ca]) 27 :: (Y5 ++ (Yx5 ++ []))) ?_ (fun hmx34 => ?_)
   ·
    rintro γ215 _
    refine any_fork [0, 2] (by kernel_rfl) (by simp) (each_cons _ rfl ?_ (each_cons _ rfl ?_ (each_nil)))
    ·
     refine qo0 1 [(0, .go (owns 1 0 3))] [3, 5, 6, 39, 43] [(38, .agg #[.int .i64 now, .slice q5 m5 c5, .slice p5 k5 d5])] ?_
     refine od_ ?_
     exact wk (hmx37 γ215 trivial) [3, 5, 6, 38, 39, 43] [[_], [_], [_], [_], _, _] [0, 1, 2, 3, 4, 5] rfl rfl
    ·
     refine qo0 1 [(2, .go (owns 2 2 3))] [3, 5, 6, 43] [(40, .agg #[.int .i64 o.al.vcpu, .int .i64 o.al.port, .int .i64 o.al.every])] ?_
     refine od_ ?_
     exact wk (hmx38 γ215 trivial) [3, 5, 6, 40, 43] [[_], [_], [_], [_], _, _] [0, 1, 2, 3, 4, 5] rfl rfl
   refine any_cutX (V := (Nat → Nat)) (fun γ215 => True) 8 #[false, true, true, true, true, false, false, false, false, false, true, false, false] (fun γ215 => [(3, .pointer (some ⟨γ1 1, 0, none⟩)), (5, .pointer (some ⟨γ6 0, 0, none⟩)), (6, .pointer (some ⟨γ215 0, 0, none⟩)), (40, .agg #[.int .i64 o.al.vcpu, .int .i64 o.al.port, .int .i64 o.al.every]), (41, .agg #[.int .i64 o.kind, .int .i64 o.vcpu, .int .i64 o.al.vcpu, .int .i64 o.al.port, .int .i64 o.al.every, .int .i64 o.time, .bool o.on]), (42, .agg #[.int .i64 now, .slice q5 m5 c5, .slice p5 k5 d5])]) (fun γ215 => bx (γ215 0) (#[.int .i64 0, .slice none 0 0, .slice none 0 0]) 27 :: bx (γ6 0) (#[.int .i64 now, .slice q5 m5 c5, .slice p5 k5 d5]) 27 :: bx (γ1 1) (#[.int .i64 o.kind, .int .i64 o.vcpu, .int .i64 o.al.vcpu, .int .i64 o.al.port, .int .i64 o.al.every, .int .i64 o.time, .bool o.on]) 58 :: bx (γ1 0) (#[.int .i64 now, .slice p n cap, .slice pa na ca]) 27 :: (Y5 ++ (Yx5 ++ []))) ?_ (fun hmx33 => ?_)
   ·
    rintro γ215 _
    refine any_fork [0, 5] (by kernel_rfl) (by simp) (each_cons _ rfl ?_ (each_cons _ rfl ?_ (each_nil)))
    ·
     refine qo0 1 [(0, .go (owns 1 0 3))] [3, 5, 6, 40, 41, 42] [(38, .agg #[.int .i64 now, .slice q5 m5 c5, .slice p5 k5 d5])] ?_
     refine od_ ?_
     exact wk (hmx36 γ215 trivial) [3, 5, 6, 38, 40, 41, 42] [[_], [_], [_], [_], _, _] [0, 1, 2, 3, 4, 5] rfl rfl
    ·
     refine cD (.int .i64 ((otV now o.on o.time))) Try.call22 (fun w hw => ot_t o now q5 m5 c5 ((shT ts)) p5 k5 d5 ((shR rs)) w hn0 hn1) ?_
     refine od_ ?_
     exact wk (hmx38 γ215 trivial) [3, 5, 6, 40, 43] [[_], [_], [_], [_], _, _] [0, 1, 2, 3, 4, 5] rfl rfl
   refine any_cutX (V := Unit) (fun _ => True) 8 #[false, true, true, true, true, true, false, false, false, false, false, false, false] (fun _ => [(3, .pointer (some ⟨γ1 1, 0, none⟩)), (5, .pointer (some ⟨γ6 0, 0, none⟩)), (40, .agg #[.int .i64 o.al.vcpu, .int .i64 o.al.port, .int .i64 o.al.every]), (43, .int .i64 ((otV now o.on o.time)))]) (fun _ => bx (γ6 0) (#[.int .i64 now, .slice q5 m5 c5, .slice p5 k5 d5]) 27 :: bx (γ1 1) (#[.int .i64 o.kind, .int .i64 o.vcpu, .int .i64 o.al.vcpu, .int .i64 o.al.port, .int .i64 o.al.every, .int .i64 o.time, .bool o.on]) 58 :: bx (γ1 0) (#[.int .i64 now, .slice p n cap, .slice pa na ca]) 27 :: (Y5 ++ (Yx5 ++ []))) ?_ (fun hmx32 => ?_)
   ·
    rintro _ _
    refine any_fork [0, 10] (by kernel_rfl) (by simp) (each_cons _ rfl ?_ (each_cons _ rfl ?_ (each_nil)))
    ·
     refine qo0 1 [(0, .go (owns 0 0 3))] [3, 5, 40, 43] [(38, .agg #[.int .i64 now, .slice q5 m5 c5, .slice p5 k5 d5])] ?_
     refine od_ ?_
     exact wk (hmx35 () trivial) [3, 5, 38, 40, 43] [[_], [_], [_], _, _] [0, 1, 2, 3, 4] rfl rfl
    ·
     refine mo0 1 [] [3, 5, 40, 43] (fun γ215 => [(6, .pointer (some ⟨γ215 0, 0, none⟩))]) (fun γ215 L => bx (γ215 0) (#[.int .i64 0, .slice none 0 0, .slice none 0 0]) 27 :: L) (fun γ215 => ?_)
     refine od_ ?_
     exact wk (hmx38 γ215 trivial) [3, 5, 6, 40, 43] [[_], [_], [_], [_], _, _] [0, 1, 2, 3, 4, 5] rfl rfl
   refine any_cutX (V := (Nat → Nat)) (fun γ215 => True) 8 #[true, true, false, true, true, false, false, false, false, false, true, false, false] (fun γ215 => [(3, .pointer (some ⟨γ1 1, 0, none⟩)), (5, .pointer (some ⟨γ6 0, 0, none⟩)), (6, .pointer (some ⟨γ215 0, 0, none⟩)), (38, .agg #[.int .i64 now, .slice q5 m5 c5, .slice p5 k5 d5]), (39, .pointer (some ⟨γ1 1, 2, none⟩)), (41, .agg #[.int .i64 o.kind, .int .i64 o.vcpu, .int .i64 o.al.vcpu, .int .i64 o.al.port, .int .i64 o.al.every, .int .i64 o.time, .bool o.on]), (42, .agg #[.int .i64 now, .slice q5 m5 c5, .slice p5 k5 d5])]) (fun γ215 => bx (γ215 0) (#[.int .i64 0, .slice none 0 0, .slice none 0 0]) 27 :: bx (γ6 0) (#[.int .i64 now, .slice q5 m5 c5, .slice p5 k5 d5]) 27 :: bx (γ1 1) (#[.int .i64 o.kind, .int .i64 o.vcpu, .int .i64 o.al.vcpu, .int .i64 o.al.port, .int .i64 o.al.every, .int .i64 o.time, .bool o.on]) 58 :: bx (γ1 0) (#[.int .i64 now, .slice p n cap, .slice pa na ca]) 27 :: (Y5 ++ (Yx5 ++ []))) ?_ (fun hmx31 => ?_)
   ·
    rintro γ215 _
    refine any_fork [2, 5] (by kernel_rfl) (by simp) (each_cons _ rfl ?_ (each_cons _ rfl ?_ (each_nil)))
    ·
     refine qo0 1 [(2, .go (owns 2 2 3))] [3, 5, 6, 38, 41, 42] [(40, .agg #[.int .i64 o.al.vcpu, .int .i64 o.al.port, .int .i64 o.al.every])] ?_
     refine od_ ?_
     exact wk (hmx36 γ215 trivial) [3, 5, 6, 38, 40, 41, 42] [[_], [_], [_], [_], _, _] [0, 1, 2, 3, 4, 5] rfl rfl
    ·
     refine cD (.int .i64 ((otV now o.on o.time))) Try.call22 (fun w hw => ot_t o now q5 m5 c5 ((shT ts)) p5 k5 d5 ((shR rs)) w hn0 hn1) ?_
     refine od_ ?_
     exact wk (hmx37 γ215 trivial) [3, 5, 6, 38, 39, 43] [[_], [_], [_], [_], _, _] [0, 1, 2, 3, 4, 5] rfl rfl
   refine any_cutX (V := Unit) (fun _ => True) 8 #[true, true, false, true, true, true, false, false, false, false, false, false, false] (fun _ => [(3, .pointer (some ⟨γ1 1, 0, none⟩)), (5, .pointer (some ⟨γ6 0, 0, none⟩)), (38, .agg #[.int .i64 now, .slice q5 m5 c5, .slice p5 k5 d5]), (39, .pointer (some ⟨γ1 1, 2, none⟩)), (43, .int .i64 ((otV now o.on o.time)))]) (fun _ => bx (γ6 0) (#[.int .i64 now, .slice q5 m5 c5, .slice p5 k5 d5]) 27 :: bx (γ1 1) (#[.int .i64 o.kind, .int .i64 o.vcpu, .int .i64 o.al.vcpu, .int .i64 o.al.port, .int .i64 o.al.every, .int .i64 o.time, .bool o.on]) 58 :: bx (γ1 0) (#[.int .i64 now, .slice p n cap, .slice pa na ca]) 27 :: (Y5 ++ (Yx5 ++ []))) ?_ (fun hmx30 => ?_)
   ·
    rintro _ _
    refine any_fork [2, 10] (by kernel_rfl) (by simp) (each_cons _ rfl ?_ (each_cons _ rfl ?_ (each_nil)))
    ·
     refine qo0 1 [(2, .go (owns 1 2 3))] [3, 5, 38, 43] [(40, .agg #[.int .i64 o.al.vcpu, .int .i64 o.al.port, .int .i64 o.al.every])] ?_
     refine od_ ?_
     exact wk (hmx35 () trivial) [3, 5, 38, 40, 43] [[_], [_], [_], _, _] [0, 1, 2, 3, 4] rfl rfl
    ·
     refine mo0 1 [] [3, 5, 38, 39, 43] (fun γ215 => [(6, .pointer (some ⟨γ215 0, 0, none⟩))]) (fun γ215 L => bx (γ215 0) (#[.int .i64 0, .slice none 0 0, .slice none 0 0]) 27 :: L) (fun γ215 => ?_)
     refine od_ ?_
     exact wk (hmx37 γ215 trivial) [3, 5, 6, 38, 39, 43] [[_], [_], [_], [_], _, _] [0, 1, 2, 3, 4, 5] rfl rfl
   refine any_cutX (V := (Nat → Nat)) (fun γ215 => True) 8 #[true, true, true, false, true, false, false, false, false, false, true, false, false] (fun γ215 => [(3, .pointer (some ⟨γ1 1, 0, none⟩)), (5, .pointer (some ⟨γ6 0, 0, none⟩)), (6, .pointer (some ⟨γ215 0, 0, none⟩)), (38, .agg #[.int .i64 now, .slice q5 m5 c5, .slice p5 k5 d5]), (40, .agg #[.int .i64 o.al.vcpu, .int .i64 o.al.port, .int .i64 o.al.every]), (42, .agg #[.int .i64 now, .slice q5 m5 c5, .slice p5 k5 d5])]) (fun γ215 => bx (γ215 0) (#[.int .i64 0, .slice none 0 0, .slice none 0 0]) 27 :: bx (γ6 0) (#[.int .i64 now, .slice q5 m5 c5, .slice p5 k5 d5]) 27 :: bx (γ1 1) (#[.int .i64 o.kind, .int .i64 o.vcpu, .int .i64 o.al.vcpu, .int .i64 o.al.port, .int .i64 o.al.every, .int .i64 o.time, .bool o.on]) 58 :: bx (γ1 0) (#[.int .i64 now, .slice p n cap, .slice pa na ca]) 27 :: (Y5 ++ (Yx5 ++ []))) ?_ (fun hmx29 => ?_)
   ·
    rintro γ215 _
    refine a1 3 rfl ?_
    refine qo0 1 [(3, .go (owns 2 0 7))] [3, 5, 6, 38, 40, 42] [(41, .agg #[.int .i64 o.kind, .int .i64 o.vcpu, .int .i64 o.al.vcpu, .int .i64 o.al.port, .int .i64 o.al.every, .int .i64 o.time, .bool o.on])] ?_
    refine od_ ?_
    exact wk (hmx36 γ215 trivial) [3, 5, 6, 38, 40, 41, 42] [[_], [_], [_], [_], _, _] [0, 1, 2, 3, 4, 5] rfl rfl
   refine any_cutX (V := (Nat → Nat)) (fun γ215 => True) 8 #[true, true, true, true, false, false, false, false, false, false, true, false, false] (fun γ215 => [(3, .pointer (some ⟨γ1 1, 0, none⟩)), (5, .pointer (some ⟨γ6 0, 0, none⟩)), (6, .pointer (some ⟨γ215 0, 0, none⟩)), (38, .agg #[.int .i64 now, .slice q5 m5 c5, .slice p5 k5 d5]), (40, .agg #[.int .i64 o.al.vcpu, .int .i64 o.al.port, .int .i64 o.al.every]), (41, .agg #[.int .i64 o.kind, .int .i64 o.vcpu, .int .i64 o.al.vcpu, .int .i64 o.al.port, .int .i64 o.al.every, .int .i64 o.time, .bool o.on])]) (fun γ215 => bx (γ215 0) (#[.int .i64 0, .slice none 0 0, .slice none 0 0]) 27 :: bx (γ6 0) (#[.int .i64 now, .slice q5 m5 c5, .slice p5 k5 d5]) 27 :: bx (γ1 1) (#[.int .i64 o.kind, .int .i64 o.vcpu, .int .i64 o.al.vcpu, .int .i64 o.al.port, .int .i64 o.al.every, .int .i64 o.time, .bool o.on]) 58 :: bx (γ1 0) (#[.int .i64 now, .slice p n cap, .slice pa na ca]) 27 :: (Y5 ++ (Yx5 ++ []))) ?_ (fun hmx28 => ?_)
   ·
    rintro γ215 _
    refine a1 4 rfl ?_
    refine qo0 1 [(4, .go (owns 1 0 3))] [3, 5, 6, 38, 40, 41] [(42, .agg #[.int .i64 now, .slice q5 m5 c5, .slice p5 k5 d5])] ?_
    refine od_ ?_
    exact wk (hmx36 γ215 trivial) [3, 5, 6, 38, 40, 41, 42] [[_], [_], [_], [_], _, _] [0, 1, 2, 3, 4, 5] rfl rfl
   refine any_cutX (V := Unit) (fun _ => True) 8 #[true, true, true, true, true, false, false, false, false, false, false, false, false] (fun _ => [(3, .pointer (some ⟨γ1 1, 0, none⟩)), (5, .pointer (some ⟨γ6 0, 0, none⟩)), (38, .agg #[.int .i64 now, .slice q5 m5 c5, .slice p5 k5 d5]), (40, .agg #[.int .i64 o.al.vcpu, .int .i64 o.al.port, .int .i64 o.al.every]), (41, .agg #[.int .i64 o.kind, .int .i64 o.vcpu, .int .i64 o.al.vcpu, .int .i64 o.al.port, .int .i64 o.al.every, .int .i64 o.time, .bool o.on]), (42, .agg #[.int .i64 now, .slice q5 m5 c5, .slice p5 k5 d5])]) (fun _ => bx (γ6 0) (#[.int .i64 now, .slice q5 m5 c5, .slice p5 k5 d5]) 27 :: bx (γ1 1) (#[.int .i64 o.kind, .int .i64 o.vcpu, .int .i64 o.al.vcpu, .int .i64 o.al.port, .int .i64 o.al.every, .int .i64 o.time, .bool o.on]) 58 :: bx (γ1 0) (#[.int .i64 now, .slice p n cap, .slice pa na ca]) 27 :: (Y5 ++ (Yx5 ++ []))) ?_ (fun hmx27 => ?_)
   ·
    rintro _ _
    refine any_fork [5, 10] (by kernel_rfl) (by simp) (each_cons _ rfl ?_ (each_cons _ rfl ?_ (each_nil)))
    ·
     refine cD (.int .i64 ((otV now o.on o.time))) Try.call22 (fun w hw => ot_t o now q5 m5 c5 ((shT ts)) p5 k5 d5 ((shR rs)) w hn0 hn1) ?_
     refine od_ ?_
     exact wk (hmx35 () trivial) [3, 5, 38, 40, 43] [[_], [_], [_], _, _] [0, 1, 2, 3, 4] rfl rfl
    ·
     refine mo0 1 [] [3, 5, 38, 40, 41, 42] (fun γ215 => [(6, .pointer (some ⟨γ215 0, 0, none⟩))]) (fun γ215 L => bx (γ215 0) (#[.int .i64 0, .slice none 0 0, .slice none 0 0]) 27 :: L) (fun γ215 => ?_)
     refine od_ ?_
     exact wk (hmx36 γ215 trivial) [3, 5, 6, 38, 40, 41, 42] [[_], [_], [_], [_], _, _] [0, 1, 2, 3, 4, 5] rfl rfl
   refine any_cutX (V := (Nat → Nat)) (fun γ215 => True) 9 #[false, true, false, true, true, false, false, false, false, false, true, false, false] (fun γ215 => [(3, .pointer (some ⟨γ1 1, 0, none⟩)), (5, .pointer (some ⟨γ6 0, 0, none⟩)), (6, .pointer (some ⟨γ215 0, 0, none⟩)), (39, .pointer (some ⟨γ1 1, 2, none⟩)), (41, .agg #[.int .i64 o.kind, .int .i64 o.vcpu, .int .i64 o.al.vcpu, .int .i64 o.al.port, .int .i64 o.al.every, .int .i64 o.time, .bool o.on]), (42, .agg #[.int .i64 now, .slice q5 m5 c5, .slice p5 k5 d5])]) (fun γ215 => bx (γ215 0) (#[.int .i64 0, .slice none 0 0, .slice none 0 0]) 27 :: bx (γ6 0) (#[.int .i64 now, .slice q5 m5 c5, .slice p5 k5 d5]) 27 :: bx (γ1 1) (#[.int .i64 o.kind, .int .i64 o.vcpu, .int .i64 o.al.vcpu, .int .i64 o.al.port, .int .i64 o.al.every, .int .i64 o.time, .bool o.on]) 58 :: bx (γ1 0) (#[.int .i64 now, .slice p n cap, .slice pa na ca]) 27 :: (Y5 ++ (Yx5 ++ []))) ?_ (fun hmx26 => ?_)
   ·
    rintro γ215 _
    refine any_fork [0, 2, 5] (by kernel_rfl) (by simp) (each_cons _ rfl ?_ (each_cons _ rfl ?_ (each_cons _ rfl ?_ (each_nil))))
    ·
     refine qo0 1 [(0, .go (owns 1 0 3))] [3, 5, 6, 39, 41, 42] [(38, .agg #[.int .i64 now, .slice q5 m5 c5, .slice p5 k5 d5])] ?_
     refine od_ ?_
     exact wk (hmx31 γ215 trivial) [3, 5, 6, 38, 39, 41, 42] [[_], [_], [_], [_], _, _] [0, 1, 2, 3, 4, 5] rfl rfl
    ·
     refine qo0 1 [(2, .go (owns 2 2 3))] [3, 5, 6, 41, 42] [(40, .agg #[.int .i64 o.al.vcpu, .int .i64 o.al.port, .int .i64 o.al.every])] ?_
     refine od_ ?_
     exact wk (hmx33 γ215 trivial) [3, 5, 6, 40, 41, 42] [[_], [_], [_], [_], _, _] [0, 1, 2, 3, 4, 5] rfl rfl
    ·
     refine cD (.int .i64 ((otV now o.on o.time))) Try.call22 (fun w hw => ot_t o now q5 m5 c5 ((shT ts)) p5 k5 d5 ((shR rs)) w hn0 hn1) ?_
     refine od_ ?_
     exact wk (hmx34 γ215 trivial) [3, 5, 6, 39, 43] [[_], [_], [_], [_], _, _] [0, 1, 2, 3, 4, 5] rfl rfl
   refine any_cutX (V := Unit) (fun _ => True) 9 #[false, true, false, true, true, true, false, false, false, false, false, false, false] (fun _ => [(3, .pointer (some ⟨γ1 1, 0, none⟩)), (5, .pointer (some ⟨γ6 0, 0, none⟩)), (39, .pointer (some ⟨γ1 1, 2, none⟩)), (43, .int .i64 ((otV now o.on o.time)))]) (fun _ => bx (γ6 0) (#[.int .i64 now, .slice q5 m5 c5, .slice p5 k5 d5]) 27 :: bx (γ1 1) (#[.int .i64 o.kind, .int .i64 o.vcpu, .int .i64 o.al.vcpu, .int .i64 o.al.port, .int .i64 o.al.every, .int .i64 o.time, .bool o.on]) 58 :: bx (γ1 0) (#[.int .i64 now, .slice p n cap, .slice pa na ca]) 27 :: (Y5 ++ (Yx5 ++ []))) ?_ (fun hmx25 => ?_)
   ·
    rintro _ _
    refine any_fork [0, 2, 10] (by kernel_rfl) (by simp) (each_cons _ rfl ?_ (each_cons _ rfl ?_ (each_cons _ rfl ?_ (each_nil))))
    ·
     refine qo0 1 [(0, .go (owns 0 0 3))] [3, 5, 39, 43] [(38, .agg #[.int .i64 now, .slice q5 m5 c5, .slice p5 k5 d5])] ?_
     refine od_ ?_
     exact wk (hmx30 () trivial) [3, 5, 38, 39, 43] [[_], [_], [_], _, _] [0, 1, 2, 3, 4] rfl rfl
    ·
     refine qo0 1 [(2, .go (owns 1 2 3))] [3, 5, 43] [(40, .agg #[.int .i64 o.al.vcpu, .int .i64 o.al.port, .int .i64 o.al.every])] ?_
     refine od_ ?_
     exact wk (hmx32 () trivial) [3, 5, 40, 43] [[_], [_], [_], _, _] [0, 1, 2, 3, 4] rfl rfl
    ·
     refine mo0 1 [] [3, 5, 39, 43] (fun γ215 => [(6, .pointer (some ⟨γ215 0, 0, none⟩))]) (fun γ215 L => bx (γ215 0) (#[.int .i64 0, .slice none 0 0, .slice none 0 0]) 27 :: L) (fun γ215 => ?_)
     refine od_ ?_
     exact wk (hmx34 γ215 trivial) [3, 5, 6, 39, 43] [[_], [_], [_], [_], _, _] [0, 1, 2, 3, 4, 5] rfl rfl
   refine any_cutX (V := (Nat → Nat)) (fun γ215 => True) 9 #[false, true, true, false, true, false, false, false, false, false, true, false, false] (fun γ215 => [(3, .pointer (some ⟨γ1 1, 0, none⟩)), (5, .pointer (some ⟨γ6 0, 0, none⟩)), (6, .pointer (some ⟨γ215 0, 0, none⟩)), (40, .agg #[.int .i64 o.al.vcpu, .int .i64 o.al.port, .int .i64 o.al.every]), (42, .agg #[.int .i64 now, .slice q5 m5 c5, .slice p5 k5 d5])]) (fun γ215 => bx (γ215 0) (#[.int .i64 0, .slice none 0 0, .slice none 0 0]) 27 :: bx (γ6 0) (#[.int .i64 now, .slice q5 m5 c5, .slice p5 k5 d5]) 27 :: bx (γ1 1) (#[.int .i64 o.kind, .int .i64 o.vcpu, .int .i64 o.al.vcpu, .int .i64 o.al.port, .int .i64 o.al.every, .int .i64 o.time, .bool o.on]) 58 :: bx (γ1 0) (#[.int .i64 now, .slice p n cap, .slice pa na ca]) 27 :: (Y5 ++ (Yx5 ++ []))) ?_ (fun hmx24 => ?_)
   ·
    rintro γ215 _
    refine any_fork [0, 3] (by kernel_rfl) (by simp) (each_cons _ rfl ?_ (each_cons _ rfl ?_ (each_nil)))
    ·
     refine qo0 1 [(0, .go (owns 1 0 3))] [3, 5, 6, 40, 42] [(38, .agg #[.int .i64 now, .slice q5 m5 c5, .slice p5 k5 d5])] ?_
     refine od_ ?_
     exact wk (hmx29 γ215 trivial) [3, 5, 6, 38, 40, 42] [[_], [_], [_], [_], _, _] [0, 1, 2, 3, 4, 5] rfl rfl
    ·
     refine qo0 1 [(3, .go (owns 2 0 7))] [3, 5, 6, 40, 42] [(41, .agg #[.int .i64 o.kind, .int .i64 o.vcpu, .int .i64 o.al.vcpu, .int .i64 o.al.port, .int .i64 o.al.every, .int .i64 o.time, .bool o.on])] ?_
     refine od_ ?_
     exact wk (hmx33 γ215 trivial) [3, 5, 6, 40, 41, 42] [[_], [_], [_], [_], _, _] [0, 1, 2, 3, 4, 5] rfl rfl
   refine any_cutX (V := (Nat → Nat)) (fun γ215 => True) 9 #[false, true, true, true, false, false, false, false, false, false, true, false, false] (fun γ215 => [(3, .pointer (some ⟨γ1 1, 0, none⟩)), (5, .pointer (some ⟨γ6 0, 0, none⟩)), (6, .pointer (some ⟨γ215 0, 0, none⟩)), (40, .agg #[.int .i64 o.al.vcpu, .int .i64 o.al.port, .int .i64 o.al.every]), (41, .agg #[.int .i64 o.kind, .int .i64 o.vcpu, .int .i64 o.al.vcpu, .int .i64 o.al.port, .int .i64 o.al.every, .int .i64 o.time, .bool o.on])]) (fun γ215 => bx (γ215 0) (#[.int .i64 0, .slice none 0 0, .slice none 0 0]) 27 :: bx (γ6 0) (#[.int .i64 now, .slice q5 m5 c5, .slice p5 k5 d5]) 27 :: bx (γ1 1) (#[.int .i64 o.kind, .int .i64 o.vcpu, .int .i64 o.al.vcpu, .int .i64 o.al.port, .int .i64 o.al.every, .int .i64 o.time, .bool o.on]) 58 :: bx (γ1 0) (#[.int .i64 now, .slice p n cap, .slice pa na ca]) 27 :: (Y5 ++ (Yx5 ++ []))) ?_ (fun hmx23 => ?_)
   ·
    rintro γ215 _
    refine any_fork [0, 4] (by kernel_rfl) (by simp) (each_cons _ rfl ?_ (each_cons _ rfl ?_ (each_nil)))
    ·
     refine qo0 1 [(0, .go (owns 1 0 3))] [3, 5, 6, 40, 41] [(38, .agg #[.int .i64 now, .slice q5 m5 c5, .slice p5 k5 d5])] ?_
     refine od_ ?_
     exact wk (hmx28 γ215 trivial) [3, 5, 6, 38, 40, 41] [[_], [_], [_], [_], _, _] [0, 1, 2, 3, 4, 5] rfl rfl
    ·
     refine qo0 1 [(4, .go (owns 1 0 3))] [3, 5, 6, 40, 41] [(42, .agg #[.int .i64 now, .slice q5 m5 c5, .slice p5 k5 d5])] ?_
     refine od_ ?_
     exact wk (hmx33 γ215 trivial) [3, 5, 6, 40, 41, 42] [[_], [_], [_], [_], _, _] [0, 1, 2, 3, 4, 5] rfl rfl
   refine any_cutX (V := Unit) (fun _ => True) 9 #[false, true, true, true, true, false, false, false, false, false, false, false, false] (fun _ => [(3, .pointer (some ⟨γ1 1, 0, none⟩)), (5, .pointer (some ⟨γ6 0, 0, none⟩)), (40, .agg #[.int .i64 o.al.vcpu, .int .i64 o.al.port, .int .i64 o.al.every]), (41, .agg #[.int .i64 o.kind, .int .i64 o.vcpu, .int .i64 o.al.vcpu, .int .i64 o.al.port, .int .i64 o.al.every, .int .i64 o.time, .bool o.on]), (42, .agg #[.int .i64 now, .slice q5 m5 c5, .slice p5 k5 d5])]) (fun _ => bx (γ6 0) (#[.int .i64 now, .slice q5 m5 c5, .slice p5 k5 d5]) 27 :: bx (γ1 1) (#[.int .i64 o.kind, .int .i64 o.vcpu, .int .i64 o.al.vcpu, .int .i64 o.al.port, .int .i64 o.al.every, .int .i64 o.time, .bool o.on]) 58 :: bx (γ1 0) (#[.int .i64 now, .slice p n cap, .slice pa na ca]) 27 :: (Y5 ++ (Yx5 ++ []))) ?_ (fun hmx22 => ?_)
   ·
    rintro _ _
    refine any_fork [0, 5, 10] (by kernel_rfl) (by simp) (each_cons _ rfl ?_ (each_cons _ rfl ?_ (each_cons _ rfl ?_ (each_nil))))
    ·
     refine qo0 1 [(0, .go (owns 0 0 3))] [3, 5, 40, 41, 42] [(38, .agg #[.int .i64 now, .slice q5 m5 c5, .slice p5 k5 d5])] ?_
     refine od_ ?_
     exact wk (hmx27 () trivial) [3, 5, 38, 40, 41, 42] [[_], [_], [_], _, _] [0, 1, 2, 3, 4] rfl rfl
    ·
     refine cD (.int .i64 ((otV now o.on o.time))) Try.call22 (fun w hw => ot_t o now q5 m5 c5 ((shT ts)) p5 k5 d5 ((shR rs)) w hn0 hn1) ?_
     refine od_ ?_
     exact wk (hmx32 () trivial) [3, 5, 40, 43] [[_], [_], [_], _, _] [0, 1, 2, 3, 4] rfl rfl
    ·
     refine mo0 1 [] [3, 5, 40, 41, 42] (fun γ215 => [(6, .pointer (some ⟨γ215 0, 0, none⟩))]) (fun γ215 L => bx (γ215 0) (#[.int .i64 0, .slice none 0 0, .slice none 0 0]) 27 :: L) (fun γ215 => ?_)
     refine od_ ?_
     exact wk (hmx33 γ215 trivial) [3, 5, 6, 40, 41, 42] [[_], [_], [_], [_], _, _] [0, 1, 2, 3, 4, 5] rfl rfl
   refine any_cutX (V := (Nat → Nat)) (fun γ215 => True) 9 #[true, true, false, false, true, false, false, false, false, false, true, false, false] (fun γ215 => [(3, .pointer (some ⟨γ1 1, 0, none⟩)), (5, .pointer (some ⟨γ6 0, 0, none⟩)), (6, .pointer (some ⟨γ215 0, 0, none⟩)), (38, .agg #[.int .i64 now, .slice q5 m5 c5, .slice p5 k5 d5]), (39, .pointer (some ⟨γ1 1, 2, none⟩)), (42, .agg #[.int .i64 now, .slice q5 m5 c5, .slice p5 k5 d5])]) (fun γ215 => bx (γ215 0) (#[.int .i64 0, .slice none 0 0, .slice none 0 0]) 27 :: bx (γ6 0) (#[.int .i64 now, .slice q5 m5 c5, .slice p5 k5 d5]) 27 :: bx (γ1 1) (#[.int .i64 o.kind, .int .i64 o.vcpu, .int .i64 o.al.vcpu, .int .i64 o.al.port, .int .i64 o.al.every, .int .i64 o.time, .bool o.on]) 58 :: bx (γ1 0) (#[.int .i64 now, .slice p n cap, .slice pa na ca]) 27 :: (Y5 ++ (Yx5 ++ []))) ?_ (fun hmx21 => ?_)
   ·
    rintro γ215 _
    refine any_fork [2, 3] (by kernel_rfl) (by simp) (each_cons _ rfl ?_ (each_cons _ rfl ?_ (each_nil)))
    ·
     refine qo0 1 [(2, .go (owns 2 2 3))] [3, 5, 6, 38, 42] [(40, .agg #[.int .i64 o.al.vcpu, .int .i64 o.al.port, .int .i64 o.al.every])] ?_
     refine od_ ?_
     exact wk (hmx29 γ215 trivial) [3, 5, 6, 38, 40, 42] [[_], [_], [_], [_], _, _] [0, 1, 2, 3, 4, 5] rfl rfl
    ·
     refine qo0 1 [(3, .go (owns 2 0 7))] [3, 5, 6, 38, 39, 42] [(41, .agg #[.int .i64 o.kind, .int .i64 o.vcpu, .int .i64 o.al.vcpu, .int .i64 o.al.port, .int .i64 o.al.every, .int .i64 o.time, .bool o.on])] ?_
     refine od_ ?_
     exact wk (hmx31 γ215 trivial) [3, 5, 6, 38, 39, 41, 42] [[_], [_], [_], [_], _, _] [0, 1, 2, 3, 4, 5] rfl rfl
   refine any_cutX (V := (Nat → Nat)) (fun γ215 => True) 9 #[true, true, false, true, false, false, false, false, false, false, true, false, false] (fun γ215 => [(3, .pointer (some ⟨γ1 1, 0, none⟩)), (5, .pointer (some ⟨γ6 0, 0, none⟩)), (6, .pointer (some ⟨γ215 0, 0, none⟩)), (38, .agg #[.int .i64 now, .slice q5 m5 c5, .slice p5 k5 d5]), (39, .pointer (some ⟨γ1 1, 2, none⟩)), (41, .agg #[.int .i64 o.kind, .int .i64 o.vcpu, .int .i64 o.al.vcpu, .int .i64 o.al.port, .int .i64 o.al.every, .int .i64 o.time, .bool o.on])]) (fun γ215 => bx (γ215 0) (#[.int .i64 0, .slice none 0 0, .slice none 0 0]) 27 :: bx (γ6 0) (#[.int .i64 now, .slice q5 m5 c5, .slice p5 k5 d5]) 27 :: bx (γ1 1) (#[.int .i64 o.kind, .int .i64 o.vcpu, .int .i64 o.al.vcpu, .int .i64 o.al.port, .int .i64 o.al.every, .int .i64 o.time, .bool o.on]) 58 :: bx (γ1 0) (#[.int .i64 now, .slice p n cap, .slice pa na ca]) 27 :: (Y5 ++ (Yx5 ++ []))) ?_ (fun hmx20 => ?_)
   ·
    rintro γ215 _
    refine any_fork [2, 4] (by kernel_rfl) (by simp) (each_cons _ rfl ?_ (each_cons _ rfl ?_ (each_nil)))
    ·
     refine qo0 1 [(2, .go (owns 2 2 3))] [3, 5, 6, 38, 41] [(40, .agg #[.int .i64 o.al.vcpu, .int .i64 o.al.port, .int .i64 o.al.every])] ?_
     refine od_ ?_
     exact wk (hmx28 γ215 trivial) [3, 5, 6, 38, 40, 41] [[_], [_], [_], [_], _, _] [0, 1, 2, 3, 4, 5] rfl rfl
    ·
     refine qo0 1 [(4, .go (owns 1 0 3))] [3, 5, 6, 38, 39, 41] [(42, .agg #[.int .i64 now, .slice q5 m5 c5, .slice p5 k5 d5])] ?_
     refine od_ ?_
     exact wk (hmx31 γ215 trivial) [3, 5, 6, 38, 39, 41, 42] [[_], [_], [_], [_], _, _] [0, 1, 2, 3, 4, 5] rfl rfl
   refine any_cutX (V := Unit) (fun _ => True) 9 #[true, true, false, true, true, false, false, false, false, false, false, false, false] (fun _ => [(3, .pointer (some ⟨γ1 1, 0, none⟩)), (5, .pointer (some ⟨γ6 0, 0, none⟩)), (38, .agg #[.int .i64 now, .slice q5 m5 c5, .slice p5 k5 d5]), (39, .pointer (some ⟨γ1 1, 2, none⟩)), (41, .agg #[.int .i64 o.kind, .int .i64 o.vcpu, .int .i64 o.al.vcpu, .int .i64 o.al.port, .int .i64 o.al.every, .int .i64 o.time, .bool o.on]), (42, .agg #[.int .i64 now, .slice q5 m5 c5, .slice p5 k5 d5])]) (fun _ => bx (γ6 0) (#[.int .i64 now, .slice q5 m5 c5, .slice p5 k5 d5]) 27 :: bx (γ1 1) (#[.int .i64 o.kind, .int .i64 o.vcpu, .int .i64 o.al.vcpu, .int .i64 o.al.port, .int .i64 o.al.every, .int .i64 o.time, .bool o.on]) 58 :: bx (γ1 0) (#[.int .i64 now, .slice p n cap, .slice pa na ca]) 27 :: (Y5 ++ (Yx5 ++ []))) ?_ (fun hmx19 => ?_)
   ·
    rintro _ _
    refine any_fork [2, 5, 10] (by kernel_rfl) (by simp) (each_cons _ rfl ?_ (each_cons _ rfl ?_ (each_cons _ rfl ?_ (each_nil))))
    ·
     refine qo0 1 [(2, .go (owns 1 2 3))] [3, 5, 38, 41, 42] [(40, .agg #[.int .i64 o.al.vcpu, .int .i64 o.al.port, .int .i64 o.al.every])] ?_
     refine od_ ?_
     exact wk (hmx27 () trivial) [3, 5, 38, 40, 41, 42] [[_], [_], [_], _, _] [0, 1, 2, 3, 4] rfl rfl
    ·
     refine cD (.int .i64 ((otV now o.on o.time))) Try.call22 (fun w hw => ot_t o now q5 m5 c5 ((shT ts)) p5 k5 d5 ((shR rs)) w hn0 hn1) ?_
     refine od_ ?_
     exact wk (hmx30 () trivial) [3, 5, 38, 39, 43] [[_], [_], [_], _, _] [0, 1, 2, 3, 4] rfl rfl
    ·
     refine mo0 1 [] [3, 5, 38, 39, 41, 42] (fun γ215 => [(6, .pointer (some ⟨γ215 0, 0, none⟩))]) (fun γ215 L => bx (γ215 0) (#[.int .i64 0, .slice none 0 0, .slice none 0 0]) 27 :: L) (fun γ215 => ?_)
     refine od_ ?_
     exact wk (hmx31 γ215 trivial) [3, 5, 6, 38, 39, 41, 42] [[_], [_], [_], [_], _, _] [0, 1, 2, 3, 4, 5] rfl rfl
   refine any_cutX (V := (Nat → Nat)) (fun γ215 => True) 9 #[true, true, true, false, false, false, false, false, false, false, true, false, false] (fun γ215 => [(3, .pointer (some ⟨γ1 1, 0, none⟩)), (5, .pointer (some ⟨γ6 0, 0, none⟩)), (6, .pointer (some ⟨γ215 0, 0, none⟩)), (38, .agg #[.int .i64 now, .slice q5 m5 c5, .slice p5 k5 d5]), (40, .agg #[.int .i64 o.al.vcpu, .int .i64 o.al.port, .int .i64 o.al.every])]) (fun γ215 => bx (γ215 0) (#[.int .i64 0, .slice none 0 0, .slice none 0 0]) 27 :: bx (γ6 0) (#[.int .i64 now, .slice q5 m5 c5, .slice p5 k5 d5]) 27 :: bx (γ1 1) (#[.int .i64 o.kind, .int .i64 o.vcpu, .int .i64 o.al.vcpu, .int .i64 o.al.port, .int .i64 o.al.every, .int .i64 o.time, .bool o.on]) 58 :: bx (γ1 0) (#[.int .i64 now, .slice p n cap, .slice pa na ca]) 27 :: (Y5 ++ (Yx5 ++ []))) ?_ (fun hmx18 => ?_)
   ·
    rintro γ215 _
    refine any_fork [3, 4] (by kernel_rfl) (by simp) (each_cons _ rfl ?_ (each_cons _ rfl ?_ (each_nil)))
    ·
     refine qo0 1 [(3, .go (owns 2 0 7))] [3, 5, 6, 38, 40] [(41, .agg #[.int .i64 o.kind, .int .i64 o.vcpu, .int .i64 o.al.vcpu, .int .i64 o.al.port, .int .i64 o.al.every, .int .i64 o.time, .bool o.on])] ?_
     refine od_ ?_
     exact wk (hmx28 γ215 trivial) [3, 5, 6, 38, 40, 41] [[_], [_], [_], [_], _, _] [0, 1, 2, 3, 4, 5] rfl rfl
    ·
     refine qo0 1 [(4, .go (owns 1 0 3))] [3, 5, 6, 38, 40] [(42, .agg #[.int .i64 now, .slice q5 m5 c5, .slice p5 k5 d5])] ?_
     refine od_ ?_
     exact wk (hmx29 γ215 trivial) [3, 5, 6, 38, 40, 42] [[_], [_], [_], [_], _, _] [0, 1, 2, 3, 4, 5] rfl rfl
   refine any_cutX (V := Unit) (fun _ => True) 9 #[true, true, true, false, true, false, false, false, false, false, false, false, false] (fun _ => [(3, .pointer (some ⟨γ1 1, 0, none⟩)), (5, .pointer (some ⟨γ6 0, 0, none⟩)), (38, .agg #[.int .i64 now, .slice q5 m5 c5, .slice p5 k5 d5]), (40, .agg #[.int .i64 o.al.vcpu, .int .i64 o.al.port, .int .i64 o.al.every]), (42, .agg #[.int .i64 now, .slice q5 m5 c5, .slice p5 k5 d5])]) (fun _ => bx (γ6 0) (#[.int .i64 now, .slice q5 m5 c5, .slice p5 k5 d5]) 27 :: bx (γ1 1) (#[.int .i64 o.kind, .int .i64 o.vcpu, .int .i64 o.al.vcpu, .int .i64 o.al.port, .int .i64 o.al.every, .int .i64 o.time, .bool o.on]) 58 :: bx (γ1 0) (#[.int .i64 now, .slice p n cap, .slice pa na ca]) 27 :: (Y5 ++ (Yx5 ++ []))) ?_ (fun hmx17 => ?_)
   ·
    rintro _ _
    refine any_fork [3, 10] (by kernel_rfl) (by simp) (each_cons _ rfl ?_ (each_cons _ rfl ?_ (each_nil)))
    ·
     refine qo0 1 [(3, .go (owns 1 0 7))] [3, 5, 38, 40, 42] [(41, .agg #[.int .i64 o.kind, .int .i64 o.vcpu, .int .i64 o.al.vcpu, .int .i64 o.al.port, .int .i64 o.al.every, .int .i64 o.time, .bool o.on])] ?_
     refine od_ ?_
     exact wk (hmx27 () trivial) [3, 5, 38, 40, 41, 42] [[_], [_], [_], _, _] [0, 1, 2, 3, 4] rfl rfl
    ·
     refine mo0 1 [] [3, 5, 38, 40, 42] (fun γ215 => [(6, .pointer (some ⟨γ215 0, 0, none⟩))]) (fun γ215 L => bx (γ215 0) (#[.int .i64 0, .slice none 0 0, .slice none 0 0]) 27 :: L) (fun γ215 => ?_)
     refine od_ ?_
     exact wk (hmx29 γ215 trivial) [3, 5, 6, 38, 40, 42] [[_], [_], [_], [_], _, _] [0, 1, 2, 3, 4, 5] rfl rfl
   refine any_cutX (V := Unit) (fun _ => True) 9 #[true, true, true, true, false, false, false, false, false, false, false, false, false] (fun _ => [(3, .pointer (some ⟨γ1 1, 0, none⟩)), (5, .pointer (some ⟨γ6 0, 0, none⟩)), (38, .agg #[.int .i64 now, .slice q5 m5 c5, .slice p5 k5 d5]), (40, .agg #[.int .i64 o.al.vcpu, .int .i64 o.al.port, .int .i64 o.al.every]), (41, .agg #[.int .i64 o.kind, .int .i64 o.vcpu, .int .i64 o.al.vcpu, .int .i64 o.al.port, .int .i64 o.al.every, .int .i64 o.time, .bool o.on])]) (fun _ => bx (γ6 0) (#[.int .i64 now, .slice q5 m5 c5, .slice p5 k5 d5]) 27 :: bx (γ1 1) (#[.int .i64 o.kind, .int .i64 o.vcpu, .int .i64 o.al.vcpu, .int .i64 o.al.port, .int .i64 o.al.every, .int .i64 o.time, .bool o.on]) 58 :: bx (γ1 0) (#[.int .i64 now, .slice p n cap, .slice pa na ca]) 27 :: (Y5 ++ (Yx5 ++ []))) ?_ (fun hmx16 => ?_)
   ·
    rintro _ _
    refine any_fork [4, 10] (by kernel_rfl) (by simp) (each_cons _ rfl ?_ (each_cons _ rfl ?_ (each_nil)))
    ·
     refine qo0 1 [(4, .go (owns 0 0 3))] [3, 5, 38, 40, 41] [(42, .agg #[.int .i64 now, .slice q5 m5 c5, .slice p5 k5 d5])] ?_
     refine od_ ?_
     exact wk (hmx27 () trivial) [3, 5, 38, 40, 41, 42] [[_], [_], [_], _, _] [0, 1, 2, 3, 4] rfl rfl
    ·
     refine mo0 1 [] [3, 5, 38, 40, 41] (fun γ215 => [(6, .pointer (some ⟨γ215 0, 0, none⟩))]) (fun γ215 L => bx (γ215 0) (#[.int .i64 0, .slice none 0 0, .slice none 0 0]) 27 :: L) (fun γ215 => ?_)
     refine od_ ?_
     exact wk (hmx28 γ215 trivial) [3, 5, 6, 38, 40, 41] [[_], [_], [_], [_], _, _] [0, 1, 2, 3, 4, 5] rfl rfl
   refine any_cutX (V := (Nat → Nat)) (fun γ215 => True) 10 #[false, true, false, false, true, false, false, false, false, false, true, false, false] (fun γ215 => [(3, .pointer (some ⟨γ1 1, 0, none⟩)), (5, .pointer (some ⟨γ6 0, 0, none⟩)), (6, .pointer (some ⟨γ215 0, 0, none⟩)), (39, .pointer (some ⟨γ1 1, 2, none⟩)), (42, .agg #[.int .i64 now, .slice q5 m5 c5, .slice p5 k5 d5])]) (fun γ215 => bx (γ215 0) (#[.int .i64 0, .slice none 0 0, .slice none 0 0]) 27 :: bx (γ6 0) (#[.int .i64 now, .slice q5 m5 c5, .slice p5 k5 d5]) 27 :: bx (γ1 1) (#[.int .i64 o.kind, .int .i64 o.vcpu, .int .i64 o.al.vcpu, .int .i64 o.al.port, .int .i64 o.al.every, .int .i64 o.time, .bool o.on]) 58 :: bx (γ1 0) (#[.int .i64 now, .slice p n cap, .slice pa na ca]) 27 :: (Y5 ++ (Yx5 ++ []))) ?_ (fun hmx15 => ?_)
   ·
    rintro γ215 _
    refine any_fork [0, 2, 3] (by kernel_rfl) (by simp) (each_cons _ rfl ?_ (each_cons _ rfl ?_ (each_cons _ rfl ?_ (each_nil))))
    ·
     refine qo0 1 [(0, .go (owns 1 0 3))] [3, 5, 6, 39, 42] [(38, .agg #[.int .i64 now, .slice q5 m5 c5, .slice p5 k5 d5])] ?_
     refine od_ ?_
     exact wk (hmx21 γ215 trivial) [3, 5, 6, 38, 39, 42] [[_], [_], [_], [_], _, _] [0, 1, 2, 3, 4, 5] rfl rfl
    ·
     refine qo0 1 [(2, .go (owns 2 2 3))] [3, 5, 6, 42] [(40, .agg #[.int .i64 o.al.vcpu, .int .i64 o.al.port, .int .i64 o.al.every])] ?_
     refine od_ ?_
     exact wk (hmx24 γ215 trivial) [3, 5, 6, 40, 42] [[_], [_], [_], [_], _, _] [0, 1, 2, 3, 4, 5] rfl rfl
    ·
     refine qo0 1 [(3, .go (owns 2 0 7))] [3, 5, 6, 39, 42] [(41, .agg #[.int .i64 o.kind, .int .i64 o.vcpu, .int .i64 o.al.vcpu, .int .i64 o.al.port, .int .i64 o.al.every, .int .i64 o.time, .bool o.on])] ?_
     refine od_ ?_
     exact wk (hmx26 γ215 trivial) [3, 5, 6, 39, 41, 42] [[_], [_], [_], [_], _, _] [0, 1, 2, 3, 4, 5] rfl rfl
   refine any_cutX (V := (Nat → Nat)) (fun γ215 => True) 10 #[false, true, false, true, false, false, false, false, false, false, true, false, false] (fun γ215 => [(3, .pointer (some ⟨γ1 1, 0, none⟩)), (5, .pointer (some ⟨γ6 0, 0, none⟩)), (6, .pointer (some ⟨γ215 0, 0, none⟩)), (39, .pointer (some ⟨γ1 1, 2, none⟩)), (41, .agg #[.int .i64 o.kind, .int .i64 o.vcpu, .int .i64 o.al.vcpu, .int .i64 o.al.port, .int .i64 o.al.every, .int .i64 o.time, .bool o.on])]) (fun γ215 => bx (γ215 0) (#[.int .i64 0, .slice none 0 0, .slice none 0 0]) 27 :: bx (γ6 0) (#[.int .i64 now, .slice q5 m5 c5, .slice p5 k5 d5]) 27 :: bx (γ1 1) (#[.int .i64 o.kind, .int .i64 o.vcpu, .int .i64 o.al.vcpu, .int .i64 o.al.port, .int .i64 o.al.every, .int .i64 o.time, .bool o.on]) 58 :: bx (γ1 0) (#[.int .i64 now, .slice p n cap, .slice pa na ca]) 27 :: (Y5 ++ (Yx5 ++ []))) ?_ (fun hmx14 => ?_)
   ·
    rintro γ215 _
    refine any_fork [0, 2, 4] (by kernel_rfl) (by simp) (each_cons _ rfl ?_ (each_cons _ rfl ?_ (each_cons _ rfl ?_ (each_nil))))
    ·
     refine qo0 1 [(0, .go (owns 1 0 3))] [3, 5, 6, 39, 41] [(38, .agg #[.int .i64 now, .slice q5 m5 c5, .slice p5 k5 d5])] ?_
     refine od_ ?_
     exact wk (hmx20 γ215 trivial) [3, 5, 6, 38, 39, 41] [[_], [_], [_], [_], _, _] [0, 1, 2, 3, 4, 5] rfl rfl
    ·
     refine qo0 1 [(2, .go (owns 2 2 3))] [3, 5, 6, 41] [(40, .agg #[.int .i64 o.al.vcpu, .int .i64 o.al.port, .int .i64 o.al.every])] ?_
     refine od_ ?_
     exact wk (hmx23 γ215 trivial) [3, 5, 6, 40, 41] [[_], [_], [_], [_], _, _] [0, 1, 2, 3, 4, 5] rfl rfl
    ·
     refine qo0 1 [(4, .go (owns 1 0 3))] [3, 5, 6, 39, 41] [(42, .agg #[.int .i64 now, .slice q5 m5 c5, .slice p5 k5 d5])] ?_
     refine od_ ?_
     exact wk (hmx26 γ215 trivial) [3, 5, 6, 39, 41, 42] [[_], [_], [_], [_], _, _] [0, 1, 2, 3, 4, 5] rfl rfl
   refine any_cutX (V := Unit) (fun _ => True) 10 #[false, true, false, true, true, false, false, false, false, false, false, false, false] (fun _ => [(3, .pointer (some ⟨γ1 1, 0, none⟩)), (5, .pointer (some ⟨γ6 0, 0, none⟩)), (39, .pointer (some ⟨γ1 1, 2, none⟩)), (41, .agg #[.int .i64 o.kind, .int .i64 o.vcpu, .int .i64 o.al.vcpu, .int .i64 o.al.port, .int .i64 o.al.every, .int .i64 o.time, .bool o.on]), (42, .agg #[.int .i64 now, .slice q5 m5 c5, .slice p5 k5 d5])]) (fun _ => bx (γ6 0) (#[.int .i64 now, .slice q5 m5 c5, .slice p5 k5 d5]) 27 :: bx (γ1 1) (#[.int .i64 o.kind, .int .i64 o.vcpu, .int .i64 o.al.vcpu, .int .i64 o.al.port, .int .i64 o.al.every, .int .i64 o.time, .bool o.on]) 58 :: bx (γ1 0) (#[.int .i64 now, .slice p n cap, .slice pa na ca]) 27 :: (Y5 ++ (Yx5 ++ []))) ?_ (fun hmx13 => ?_)
   ·
    rintro _ _
    refine any_fork [0, 2, 5, 10] (by kernel_rfl) (by simp) (each_cons _ rfl ?_ (each_cons _ rfl ?_ (each_cons _ rfl ?_ (each_cons _ rfl ?_ (each_nil)))))
    ·
     refine qo0 1 [(0, .go (owns 0 0 3))] [3, 5, 39, 41, 42] [(38, .agg #[.int .i64 now, .slice q5 m5 c5, .slice p5 k5 d5])] ?_
     refine od_ ?_
     exact wk (hmx19 () trivial) [3, 5, 38, 39, 41, 42] [[_], [_], [_], _, _] [0, 1, 2, 3, 4] rfl rfl
    ·
     refine qo0 1 [(2, .go (owns 1 2 3))] [3, 5, 41, 42] [(40, .agg #[.int .i64 o.al.vcpu, .int .i64 o.al.port, .int .i64 o.al.every])] ?_
     refine od_ ?_
     exact wk (hmx22 () trivial) [3, 5, 40, 41, 42] [[_], [_], [_], _, _] [0, 1, 2, 3, 4] rfl rfl
    ·
     refine cD (.int .i64 ((otV now o.on o.time))) Try.call22 (fun w hw => ot_t o now q5 m5 c5 ((shT ts)) p5 k5 d5 ((shR rs)) w hn0 hn1) ?_
     refine od_ ?_
     exact wk (hmx25 () trivial) [3, 5, 39, 43] [[_], [_], [_], _, _] [0, 1, 2, 3, 4] rfl rfl
    ·
     refine mo0 1 [] [3, 5, 39, 41, 42] (fun γ215 => [(6, .pointer (some ⟨γ215 0, 0, none⟩))]) (fun γ215 L => bx (γ215 0) (#[.int .i64 0, .slice none 0 0, .slice none 0 0]) 27 :: L) (fun γ215 => ?_)
     refine od_ ?_
     exact wk (hmx26 γ215 trivial) [3, 5, 6, 39, 41, 42] [[_], [_], [_], [_], _, _] [0, 1, 2, 3, 4, 5] rfl rfl
   refine any_cutX (V := (Nat → Nat)) (fun γ215 => True) 10 #[false, true, true, false, false, false, false, false, false, false, true, false, false] (fun γ215 => [(3, .pointer (some ⟨γ1 1, 0, none⟩)), (5, .pointer (some ⟨γ6 0, 0, none⟩)), (6, .pointer (some ⟨γ215 0, 0, none⟩)), (40, .agg #[.int .i64 o.al.vcpu, .int .i64 o.al.port, .int .i64 o.al.every])]) (fun γ215 => bx (γ215 0) (#[.int .i64 0, .slice none 0 0, .slice none 0 0]) 27 :: bx (γ6 0) (#[.int .i64 now, .slice q5 m5 c5, .slice p5 k5 d5]) 27 :: bx (γ1 1) (#[.int .i64 o.kind, .int .i64 o.vcpu, .int .i64 o.al.vcpu, .int .i64 o.al.port, .int .i64 o.al.every, .int .i64 o.time, .bool o.on]) 58 :: bx (γ1 0) (#[.int .i64 now, .slice p n cap, .slice pa na ca]) 27 :: (Y5 ++ (Yx5 ++ []))) ?_ (fun hmx12 => ?_)
   ·
    rintro γ215 _
    refine any_fork [0, 3, 4] (by kernel_rfl) (by simp) (each_cons _ rfl ?_ (each_cons _ rfl ?_ (each_cons _ rfl ?_ (each_nil))))
    ·
     refine qo0 1 [(0, .go (owns 1 0 3))] [3, 5, 6, 40] [(38, .agg #[.int .i64 now, .slice q5 m5 c5, .slice p5 k5 d5])] ?_
     refine od_ ?_
     exact wk (hmx18 γ215 trivial) [3, 5, 6, 38, 40] [[_], [_], [_], [_], _, _] [0, 1, 2, 3, 4, 5] rfl rfl
    ·
     refine qo0 1 [(3, .go (owns 2 0 7))] [3, 5, 6, 40] [(41, .agg #[.int .i64 o.kind, .int .i64 o.vcpu, .int .i64 o.al.vcpu, .int .i64 o.al.port, .int .i64 o.al.every, .int .i64 o.time, .bool o.on])] ?_
     refine od_ ?_
     exact wk (hmx23 γ215 trivial) [3, 5, 6, 40, 41] [[_], [_], [_], [_], _, _] [0, 1, 2, 3, 4, 5] rfl rfl
    ·
     refine qo0 1 [(4, .go (owns 1 0 3))] [3, 5, 6, 40] [(42, .agg #[.int .i64 now, .slice q5 m5 c5, .slice p5 k5 d5])] ?_
     refine od_ ?_
     exact wk (hmx24 γ215 trivial) [3, 5, 6, 40, 42] [[_], [_], [_], [_], _, _] [0, 1, 2, 3, 4, 5] rfl rfl
   refine any_cutX (V := Unit) (fun _ => True) 10 #[false, true, true, false, true, false, false, false, false, false, false, false, false] (fun _ => [(3, .pointer (some ⟨γ1 1, 0, none⟩)), (5, .pointer (some ⟨γ6 0, 0, none⟩)), (40, .agg #[.int .i64 o.al.vcpu, .int .i64 o.al.port, .int .i64 o.al.every]), (42, .agg #[.int .i64 now, .slice q5 m5 c5, .slice p5 k5 d5])]) (fun _ => bx (γ6 0) (#[.int .i64 now, .slice q5 m5 c5, .slice p5 k5 d5]) 27 :: bx (γ1 1) (#[.int .i64 o.kind, .int .i64 o.vcpu, .int .i64 o.al.vcpu, .int .i64 o.al.port, .int .i64 o.al.every, .int .i64 o.time, .bool o.on]) 58 :: bx (γ1 0) (#[.int .i64 now, .slice p n cap, .slice pa na ca]) 27 :: (Y5 ++ (Yx5 ++ []))) ?_ (fun hmx11 => ?_)
   ·
    rintro _ _
    refine any_fork [0, 3, 10] (by kernel_rfl) (by simp) (each_cons _ rfl ?_ (each_cons _ rfl ?_ (each_cons _ rfl ?_ (each_nil))))
    ·
     refine qo0 1 [(0, .go (owns 0 0 3))] [3, 5, 40, 42] [(38, .agg #[.int .i64 now, .slice q5 m5 c5, .slice p5 k5 d5])] ?_
     refine od_ ?_
     exact wk (hmx17 () trivial) [3, 5, 38, 40, 42] [[_], [_], [_], _, _] [0, 1, 2, 3, 4] rfl rfl
    ·
     refine qo0 1 [(3, .go (owns 1 0 7))] [3, 5, 40, 42] [(41, .agg #[.int .i64 o.kind, .int .i64 o.vcpu, .int .i64 o.al.vcpu, .int .i64 o.al.port, .int .i64 o.al.every, .int .i64 o.time, .bool o.on])] ?_
     refine od_ ?_
     exact wk (hmx22 () trivial) [3, 5, 40, 41, 42] [[_], [_], [_], _, _] [0, 1, 2, 3, 4] rfl rfl
    ·
     refine mo0 1 [] [3, 5, 40, 42] (fun γ215 => [(6, .pointer (some ⟨γ215 0, 0, none⟩))]) (fun γ215 L => bx (γ215 0) (#[.int .i64 0, .slice none 0 0, .slice none 0 0]) 27 :: L) (fun γ215 => ?_)
     refine od_ ?_
     exact wk (hmx24 γ215 trivial) [3, 5, 6, 40, 42] [[_], [_], [_], [_], _, _] [0, 1, 2, 3, 4, 5] rfl rfl
   refine any_cutX (V := Unit) (fun _ => True) 10 #[false, true, true, true, false, false, false, false, false, false, false, false, false] (fun _ => [(3, .pointer (some ⟨γ1 1, 0, none⟩)), (5, .pointer (some ⟨γ6 0, 0, none⟩)), (40, .agg #[.int .i64 o.al.vcpu, .int .i64 o.al.port, .int .i64 o.al.every]), (41, .agg #[.int .i64 o.kind, .int .i64 o.vcpu, .int .i64 o.al.vcpu, .int .i64 o.al.port, .int .i64 o.al.every, .int .i64 o.time, .bool o.on])]) (fun _ => bx (γ6 0) (#[.int .i64 now, .slice q5 m5 c5, .slice p5 k5 d5]) 27 :: bx (γ1 1) (#[.int .i64 o.kind, .int .i64 o.vcpu, .int .i64 o.al.vcpu, .int .i64 o.al.port, .int .i64 o.al.every, .int .i64 o.time, .bool o.on]) 58 :: bx (γ1 0) (#[.int .i64 now, .slice p n cap, .slice pa na ca]) 27 :: (Y5 ++ (Yx5 ++ []))) ?_ (fun hmx10 => ?_)
   ·
    rintro _ _
    refine any_fork [0, 4, 10] (by kernel_rfl) (by simp) (each_cons _ rfl ?_ (each_cons _ rfl ?_ (each_cons _ rfl ?_ (each_nil))))
    ·
     refine qo0 1 [(0, .go (owns 0 0 3))] [3, 5, 40, 41] [(38, .agg #[.int .i64 now, .slice q5 m5 c5, .slice p5 k5 d5])] ?_
     refine od_ ?_
     exact wk (hmx16 () trivial) [3, 5, 38, 40, 41] [[_], [_], [_], _, _] [0, 1, 2, 3, 4] rfl rfl
    ·
     refine qo0 1 [(4, .go (owns 0 0 3))] [3, 5, 40, 41] [(42, .agg #[.int .i64 now, .slice q5 m5 c5, .slice p5 k5 d5])] ?_
     refine od_ ?_
     exact wk (hmx22 () trivial) [3, 5, 40, 41, 42] [[_], [_], [_], _, _] [0, 1, 2, 3, 4] rfl rfl
    ·
     refine mo0 1 [] [3, 5, 40, 41] (fun γ215 => [(6, .pointer (some ⟨γ215 0, 0, none⟩))]) (fun γ215 L => bx (γ215 0) (#[.int .i64 0, .slice none 0 0, .slice none 0 0]) 27 :: L) (fun γ215 => ?_)
     refine od_ ?_
     exact wk (hmx23 γ215 trivial) [3, 5, 6, 40, 41] [[_], [_], [_], [_], _, _] [0, 1, 2, 3, 4, 5] rfl rfl
   refine any_cutX (V := (Nat → Nat)) (fun γ215 => True) 10 #[true, true, false, false, false, false, false, false, false, false, true, false, false] (fun γ215 => [(3, .pointer (some ⟨γ1 1, 0, none⟩)), (5, .pointer (some ⟨γ6 0, 0, none⟩)), (6, .pointer (some ⟨γ215 0, 0, none⟩)), (38, .agg #[.int .i64 now, .slice q5 m5 c5, .slice p5 k5 d5]), (39, .pointer (some ⟨γ1 1, 2, none⟩))]) (fun γ215 => bx (γ215 0) (#[.int .i64 0, .slice none 0 0, .slice none 0 0]) 27 :: bx (γ6 0) (#[.int .i64 now, .slice q5 m5 c5, .slice p5 k5 d5]) 27 :: bx (γ1 1) (#[.int .i64 o.kind, .int .i64 o.vcpu, .int .i64 o.al.vcpu, .int .i64 o.al.port, .int .i64 o.al.every, .int .i64 o.time, .bool o.on]) 58 :: bx (γ1 0) (#[.int .i64 now, .slice p n cap, .slice pa na ca]) 27 :: (Y5 ++ (Yx5 ++ []))) ?_ (fun hmx9 => ?_)
   ·
    rintro γ215 _
    refine any_fork [2, 3, 4] (by kernel_rfl) (by simp) (each_cons _ rfl ?_ (each_cons _ rfl ?_ (each_cons _ rfl ?_ (each_nil))))
    ·
     refine qo0 1 [(2, .go (owns 2 2 3))] [3, 5, 6, 38] [(40, .agg #[.int .i64 o.al.vcpu, .int .i64 o.al.port, .int .i64 o.al.every])] ?_
     refine od_ ?_
     exact wk (hmx18 γ215 trivial) [3, 5, 6, 38, 40] [[_], [_], [_], [_], _, _] [0, 1, 2, 3, 4, 5] rfl rfl
    ·
     refine qo0 1 [(3, .go (owns 2 0 7))] [3, 5, 6, 38, 39] [(41, .agg #[.int .i64 o.kind, .int .i64 o.vcpu, .int .i64 o.al.vcpu, .int .i64 o.al.port, .int .i64 o.al.every, .int .i64 o.time, .bool o.on])] ?_
     refine od_ ?_
     exact wk (hmx20 γ215 trivial) [3, 5, 6, 38, 39, 41] [[_], [_], [_], [_], _, _] [0, 1, 2, 3, 4, 5] rfl rfl
    ·
     refine qo0 1 [(4, .go (owns 1 0 3))] [3, 5, 6, 38, 39] [(42, .agg #[.int .i64 now, .slice q5 m5 c5, .slice p5 k5 d5])] ?_
     refine od_ ?_
     exact wk (hmx21 γ215 trivial) [3, 5, 6, 38, 39, 42] [[_], [_], [_], [_], _, _] [0, 1, 2, 3, 4, 5] rfl rfl
   refine any_cutX (V := Unit) (fun _ => True) 10 #[true, true, false, false, true, false, false, false, false, false, false, false, false] (fun _ => [(3, .pointer (some ⟨γ1 1, 0, none⟩)), (5, .pointer (some ⟨γ6 0, 0, none⟩)), (38, .agg #[.int .i64 now, .slice q5 m5 c5, .slice p5 k5 d5]), (39, .pointer (some ⟨γ1 1, 2, none⟩)), (42, .agg #[.int .i64 now, .slice q5 m5 c5, .slice p5 k5 d5])]) (fun _ => bx (γ6 0) (#[.int .i64 now, .slice q5 m5 c5, .slice p5 k5 d5]) 27 :: bx (γ1 1) (#[.int .i64 o.kind, .int .i64 o.vcpu, .int .i64 o.al.vcpu, .int .i64 o.al.port, .int .i64 o.al.every, .int .i64 o.time, .bool o.on]) 58 :: bx (γ1 0) (#[.int .i64 now, .slice p n cap, .slice pa na ca]) 27 :: (Y5 ++ (Yx5 ++ []))) ?_ (fun hmx8 => ?_)
   ·
    rintro _ _
    refine any_fork [2, 3, 10] (by kernel_rfl) (by simp) (each_cons _ rfl ?_ (each_cons _ rfl ?_ (each_cons _ rfl ?_ (each_nil))))
    ·
     refine qo0 1 [(2, .go (owns 1 2 3))] [3, 5, 38, 42] [(40, .agg #[.int .i64 o.al.vcpu, .int .i64 o.al.port, .int .i64 o.al.every])] ?_
     refine od_ ?_
     exact wk (hmx17 () trivial) [3, 5, 38, 40, 42] [[_], [_], [_], _, _] [0, 1, 2, 3, 4] rfl rfl
    ·
     refine qo0 1 [(3, .go (owns 1 0 7))] [3, 5, 38, 39, 42] [(41, .agg #[.int .i64 o.kind, .int .i64 o.vcpu, .int .i64 o.al.vcpu, .int .i64 o.al.port, .int .i64 o.al.every, .int .i64 o.time, .bool o.on])] ?_
     refine od_ ?_
     exact wk (hmx19 () trivial) [3, 5, 38, 39, 41, 42] [[_], [_], [_], _, _] [0, 1, 2, 3, 4] rfl rfl
    ·
     refine mo0 1 [] [3, 5, 38, 39, 42] (fun γ215 => [(6, .pointer (some ⟨γ215 0, 0, none⟩))]) (fun γ215 L => bx (γ215 0) (#[.int .i64 0, .slice none 0 0, .slice none 0 0]) 27 :: L) (fun γ215 => ?_)
     refine od_ ?_
     exact wk (hmx21 γ215 trivial) [3, 5, 6, 38, 39, 42] [[_], [_], [_], [_], _, _] [0, 1, 2, 3, 4, 5] rfl rfl
   refine any_cutX (V := Unit) (fun _ => True) 10 #[true, true, false, true, false, false, false, false, false, false, false, false, false] (fun _ => [(3, .pointer (some ⟨γ1 1, 0, none⟩)), (5, .pointer (some ⟨γ6 0, 0, none⟩)), (38, .agg #[.int .i64 now, .slice q5 m5 c5, .slice p5 k5 d5]), (39, .pointer (some ⟨γ1 1, 2, none⟩)), (41, .agg #[.int .i64 o.kind, .int .i64 o.vcpu, .int .i64 o.al.vcpu, .int .i64 o.al.port, .int .i64 o.al.every, .int .i64 o.time, .bool o.on])]) (fun _ => bx (γ6 0) (#[.int .i64 now, .slice q5 m5 c5, .slice p5 k5 d5]) 27 :: bx (γ1 1) (#[.int .i64 o.kind, .int .i64 o.vcpu, .int .i64 o.al.vcpu, .int .i64 o.al.port, .int .i64 o.al.every, .int .i64 o.time, .bool o.on]) 58 :: bx (γ1 0) (#[.int .i64 now, .slice p n cap, .slice pa na ca]) 27 :: (Y5 ++ (Yx5 ++ []))) ?_ (fun hmx7 => ?_)
   ·
    rintro _ _
    refine any_fork [2, 4, 10] (by kernel_rfl) (by simp) (each_cons _ rfl ?_ (each_cons _ rfl ?_ (each_cons _ rfl ?_ (each_nil))))
    ·
     refine qo0 1 [(2, .go (owns 1 2 3))] [3, 5, 38, 41] [(40, .agg #[.int .i64 o.al.vcpu, .int .i64 o.al.port, .int .i64 o.al.every])] ?_
     refine od_ ?_
     exact wk (hmx16 () trivial) [3, 5, 38, 40, 41] [[_], [_], [_], _, _] [0, 1, 2, 3, 4] rfl rfl
    ·
     refine qo0 1 [(4, .go (owns 0 0 3))] [3, 5, 38, 39, 41] [(42, .agg #[.int .i64 now, .slice q5 m5 c5, .slice p5 k5 d5])] ?_
     refine od_ ?_
     exact wk (hmx19 () trivial) [3, 5, 38, 39, 41, 42] [[_], [_], [_], _, _] [0, 1, 2, 3, 4] rfl rfl
    ·
     refine mo0 1 [] [3, 5, 38, 39, 41] (fun γ215 => [(6, .pointer (some ⟨γ215 0, 0, none⟩))]) (fun γ215 L => bx (γ215 0) (#[.int .i64 0, .slice none 0 0, .slice none 0 0]) 27 :: L) (fun γ215 => ?_)
     refine od_ ?_
     exact wk (hmx20 γ215 trivial) [3, 5, 6, 38, 39, 41] [[_], [_], [_], [_], _, _] [0, 1, 2, 3, 4, 5] rfl rfl
   refine any_cutX (V := Unit) (fun _ => True) 10 #[true, true, true, false, false, false, false, false, false, false, false, false, false] (fun _ => [(3, .pointer (some ⟨γ1 1, 0, none⟩)), (5, .pointer (some ⟨γ6 0, 0, none⟩)), (38, .agg #[.int .i64 now, .slice q5 m5 c5, .slice p5 k5 d5]), (40, .agg #[.int .i64 o.al.vcpu, .int .i64 o.al.port, .int .i64 o.al.every])]) (fun _ => bx (γ6 0) (#[.int .i64 now, .slice q5 m5 c5, .slice p5 k5 d5]) 27 :: bx (γ1 1) (#[.int .i64 o.kind, .int .i64 o.vcpu, .int .i64 o.al.vcpu, .int .i64 o.al.port, .int .i64 o.al.every, .int .i64 o.time, .bool o.on]) 58 :: bx (γ1 0) (#[.int .i64 now, .slice p n cap, .slice pa na ca]) 27 :: (Y5 ++ (Yx5 ++ []))) ?_ (fun hmx6 => ?_)
   ·
    rintro _ _
    refine any_fork [3, 4, 10] (by kernel_rfl) (by simp) (each_cons _ rfl ?_ (each_cons _ rfl ?_ (each_cons _ rfl ?_ (each_nil))))
    ·
     refine qo0 1 [(3, .go (owns 1 0 7))] [3, 5, 38, 40] [(41, .agg #[.int .i64 o.kind, .int .i64 o.vcpu, .int .i64 o.al.vcpu, .int .i64 o.al.port, .int .i64 o.al.every, .int .i64 o.time, .bool o.on])] ?_
     refine od_ ?_
     exact wk (hmx16 () trivial) [3, 5, 38, 40, 41] [[_], [_], [_], _, _] [0, 1, 2, 3, 4] rfl rfl
    ·
     refine qo0 1 [(4, .go (owns 0 0 3))] [3, 5, 38, 40] [(42, .agg #[.int .i64 now, .slice q5 m5 c5, .slice p5 k5 d5])] ?_
     refine od_ ?_
     exact wk (hmx17 () trivial) [3, 5, 38, 40, 42] [[_], [_], [_], _, _] [0, 1, 2, 3, 4] rfl rfl
    ·
     refine mo0 1 [] [3, 5, 38, 40] (fun γ215 => [(6, .pointer (some ⟨γ215 0, 0, none⟩))]) (fun γ215 L => bx (γ215 0) (#[.int .i64 0, .slice none 0 0, .slice none 0 0]) 27 :: L) (fun γ215 => ?_)
     refine od_ ?_
     exact wk (hmx18 γ215 trivial) [3, 5, 6, 38, 40] [[_], [_], [_], [_], _, _] [0, 1, 2, 3, 4, 5] rfl rfl
   refine any_cutX (V := (Nat → Nat)) (fun γ215 => True) 11 #[false, true, false, false, false, false, false, false, false, false, true, false, false] (fun γ215 => [(3, .pointer (some ⟨γ1 1, 0, none⟩)), (5, .pointer (some ⟨γ6 0, 0, none⟩)), (6, .pointer (some ⟨γ215 0, 0, none⟩)), (39, .pointer (some ⟨γ1 1, 2, none⟩))]) (fun γ215 => bx (γ215 0) (#[.int .i64 0, .slice none 0 0, .slice none 0 0]) 27 :: bx (γ6 0) (#[.int .i64 now, .slice q5 m5 c5, .slice p5 k5 d5]) 27 :: bx (γ1 1) (#[.int .i64 o.kind, .int .i64 o.vcpu, .int .i64 o.al.vcpu, .int .i64 o.al.port, .int .i64 o.al.every, .int .i64 o.time, .bool o.on]) 58 :: bx (γ1 0) (#[.int .i64 now, .slice p n cap, .slice pa na ca]) 27 :: (Y5 ++ (Yx5 ++ []))) ?_ (fun hmx5 => ?_)
   ·
    rintro γ215 _
    refine any_fork [0, 2, 3, 4] (by kernel_rfl) (by simp) (each_cons _ rfl ?_ (each_cons _ rfl ?_ (each_cons _ rfl ?_ (each_cons _ rfl ?_ (each_nil)))))
    ·
     refine qo0 1 [(0, .go (owns 1 0 3))] [3, 5, 6, 39] [(38, .agg #[.int .i64 now, .slice q5 m5 c5, .slice p5 k5 d5])] ?_
     refine od_ ?_
     exact wk (hmx9 γ215 trivial) [3, 5, 6, 38, 39] [[_], [_], [_], [_], _, _] [0, 1, 2, 3, 4, 5] rfl rfl
    ·
     refine qo0 1 [(2, .go (owns 2 2 3))] [3, 5, 6] [(40, .agg #[.int .i64 o.al.vcpu, .int .i64 o.al.port, .int .i64 o.al.every])] ?_
     refine od_ ?_
     exact wk (hmx12 γ215 trivial) [3, 5, 6, 40] [[_], [_], [_], [_], _, _] [0, 1, 2, 3, 4, 5] rfl rfl
    ·
     refine qo0 1 [(3, .go (owns 2 0 7))] [3, 5, 6, 39] [(41, .agg #[.int .i64 o.kind, .int .i64 o.vcpu, .int .i64 o.al.vcpu, .int .i64 o.al.port, .int .i64 o.al.every, .int .i64 o.time, .bool o.on])] ?_
     refine od_ ?_
     exact wk (hmx14 γ215 trivial) [3, 5, 6, 39, 41] [[_], [_], [_], [_], _, _] [0, 1, 2, 3, 4, 5] rfl rfl
    ·
     refine qo0 1 [(4, .go (owns 1 0 3))] [3, 5, 6, 39] [(42, .agg #[.int .i64 now, .slice q5 m5 c5, .slice p5 k5 d5])] ?_
     refine od_ ?_
     exact wk (hmx15 γ215 trivial) [3, 5, 6, 39, 42] [[_], [_], [_], [_], _, _] [0, 1, 2, 3, 4, 5] rfl rfl
   refine any_cutX (V := Unit) (fun _ => True) 11 #[false, true, false, false, true, false, false, false, false, false, false, false, false] (fun _ => [(3, .pointer (some ⟨γ1 1, 0, none⟩)), (5, .pointer (some ⟨γ6 0, 0, none⟩)), (39, .pointer (some ⟨γ1 1, 2, none⟩)), (42, .agg #[.int .i64 now, .slice q5 m5 c5, .slice p5 k5 d5])]) (fun _ => bx (γ6 0) (#[.int .i64 now, .slice q5 m5 c5, .slice p5 k5 d5]) 27 :: bx (γ1 1) (#[.int .i64 o.kind, .int .i64 o.vcpu, .int .i64 o.al.vcpu, .int .i64 o.al.port, .int .i64 o.al.every, .int .i64 o.time, .bool o.on]) 58 :: bx (γ1 0) (#[.int .i64 now, .slice p n cap, .slice pa na ca]) 27 :: (Y5 ++ (Yx5 ++ []))) ?_ (fun hmx4 => ?_)
   ·
    rintro _ _
    refine any_fork [0, 2, 3, 10] (by kernel_rfl) (by simp) (each_cons _ rfl ?_ (each_cons _ rfl ?_ (each_cons _ rfl ?_ (each_cons _ rfl ?_ (each_nil)))))
    ·
     refine qo0 1 [(0, .go (owns 0 0 3))] [3, 5, 39, 42] [(38, .agg #[.int .i64 now, .slice q5 m5 c5, .slice p5 k5 d5])] ?_
     refine od_ ?_
     exact wk (hmx8 () trivial) [3, 5, 38, 39, 42] [[_], [_], [_], _, _] [0, 1, 2, 3, 4] rfl rfl
    ·
     refine qo0 1 [(2, .go (owns 1 2 3))] [3, 5, 42] [(40, .agg #[.int .i64 o.al.vcpu, .int .i64 o.al.port, .int .i64 o.al.every])] ?_
     refine od_ ?_
     exact wk (hmx11 () trivial) [3, 5, 40, 42] [[_], [_], [_], _, _] [0, 1, 2, 3, 4] rfl rfl
    ·
     refine qo0 1 [(3, .go (owns 1 0 7))] [3, 5, 39, 42] [(41, .agg #[.int .i64 o.kind, .int .i64 o.vcpu, .int .i64 o.al.vcpu, .int .i64 o.al.port, .int .i64 o.al.every, .int .i64 o.time, .bool o.on])] ?_
     refine od_ ?_
     exact wk (hmx13 () trivial) [3, 5, 39, 41, 42] [[_], [_], [_], _, _] [0, 1, 2, 3, 4] rfl rfl
    ·
     refine mo0 1 [] [3, 5, 39, 42] (fun γ215 => [(6, .pointer (some ⟨γ215 0, 0, none⟩))]) (fun γ215 L => bx (γ215 0) (#[.int .i64 0, .slice none 0 0, .slice none 0 0]) 27 :: L) (fun γ215 => ?_)
     refine od_ ?_
     exact wk (hmx15 γ215 trivial) [3, 5, 6, 39, 42] [[_], [_], [_], [_], _, _] [0, 1, 2, 3, 4, 5] rfl rfl
   refine any_cutX (V := Unit) (fun _ => True) 11 #[false, true, false, true, false, false, false, false, false, false, false, false, false] (fun _ => [(3, .pointer (some ⟨γ1 1, 0, none⟩)), (5, .pointer (some ⟨γ6 0, 0, none⟩)), (39, .pointer (some ⟨γ1 1, 2, none⟩)), (41, .agg #[.int .i64 o.kind, .int .i64 o.vcpu, .int .i64 o.al.vcpu, .int .i64 o.al.port, .int .i64 o.al.every, .int .i64 o.time, .bool o.on])]) (fun _ => bx (γ6 0) (#[.int .i64 now, .slice q5 m5 c5, .slice p5 k5 d5]) 27 :: bx (γ1 1) (#[.int .i64 o.kind, .int .i64 o.vcpu, .int .i64 o.al.vcpu, .int .i64 o.al.port, .int .i64 o.al.every, .int .i64 o.time, .bool o.on]) 58 :: bx (γ1 0) (#[.int .i64 now, .slice p n cap, .slice pa na ca]) 27 :: (Y5 ++ (Yx5 ++ []))) ?_ (fun hmx3 => ?_)
   ·
    rintro _ _
    refine any_fork [0, 2, 4, 10] (by kernel_rfl) (by simp) (each_cons _ rfl ?_ (each_cons _ rfl ?_ (each_cons _ rfl ?_ (each_cons _ rfl ?_ (each_nil)))))
    ·
     refine qo0 1 [(0, .go (owns 0 0 3))] [3, 5, 39, 41] [(38, .agg #[.int .i64 now, .slice q5 m5 c5, .slice p5 k5 d5])] ?_
     refine od_ ?_
     exact wk (hmx7 () trivial) [3, 5, 38, 39, 41] [[_], [_], [_], _, _] [0, 1, 2, 3, 4] rfl rfl
    ·
     refine qo0 1 [(2, .go (owns 1 2 3))] [3, 5, 41] [(40, .agg #[.int .i64 o.al.vcpu, .int .i64 o.al.port, .int .i64 o.al.every])] ?_
     refine od_ ?_
     exact wk (hmx10 () trivial) [3, 5, 40, 41] [[_], [_], [_], _, _] [0, 1, 2, 3, 4] rfl rfl
    ·
     refine qo0 1 [(4, .go (owns 0 0 3))] [3, 5, 39, 41] [(42, .agg #[.int .i64 now, .slice q5 m5 c5, .slice p5 k5 d5])] ?_
     refine od_ ?_
     exact wk (hmx13 () trivial) [3, 5, 39, 41, 42] [[_], [_], [_], _, _] [0, 1, 2, 3, 4] rfl rfl
    ·
     refine mo0 1 [] [3, 5, 39, 41] (fun γ215 => [(6, .pointer (some ⟨γ215 0, 0, none⟩))]) (fun γ215 L => bx (γ215 0) (#[.int .i64 0, .slice none 0 0, .slice none 0 0]) 27 :: L) (fun γ215 => ?_)
     refine od_ ?_
     exact wk (hmx14 γ215 trivial) [3, 5, 6, 39, 41] [[_], [_], [_], [_], _, _] [0, 1, 2, 3, 4, 5] rfl rfl
   refine any_cutX (V := Unit) (fun _ => True) 11 #[false, true, true, false, false, false, false, false, false, false, false, false, false] (fun _ => [(3, .pointer (some ⟨γ1 1, 0, none⟩)), (5, .pointer (some ⟨γ6 0, 0, none⟩)), (40, .agg #[.int .i64 o.al.vcpu, .int .i64 o.al.port, .int .i64 o.al.every])]) (fun _ => bx (γ6 0) (#[.int .i64 now, .slice q5 m5 c5, .slice p5 k5 d5]) 27 :: bx (γ1 1) (#[.int .i64 o.kind, .int .i64 o.vcpu, .int .i64 o.al.vcpu, .int .i64 o.al.port, .int .i64 o.al.every, .int .i64 o.time, .bool o.on]) 58 :: bx (γ1 0) (#[.int .i64 now, .slice p n cap, .slice pa na ca]) 27 :: (Y5 ++ (Yx5 ++ []))) ?_ (fun hmx2 => ?_)
   ·
    rintro _ _
    refine any_fork [0, 3, 4, 10] (by kernel_rfl) (by simp) (each_cons _ rfl ?_ (each_cons _ rfl ?_ (each_cons _ rfl ?_ (each_cons _ rfl ?_ (each_nil)))))
    ·
     refine qo0 1 [(0, .go (owns 0 0 3))] [3, 5, 40] [(38, .agg #[.int .i64 now, .slice q5 m5 c5, .slice p5 k5 d5])] ?_
     refine od_ ?_
     exact wk (hmx6 () trivial) [3, 5, 38, 40] [[_], [_], [_], _, _] [0, 1, 2, 3, 4] rfl rfl
    ·
     refine qo0 1 [(3, .go (owns 1 0 7))] [3, 5, 40] [(41, .agg #[.int .i64 o.kind, .int .i64 o.vcpu, .int .i64 o.al.vcpu, .int .i64 o.al.port, .int .i64 o.al.every, .int .i64 o.time, .bool o.on])] ?_
     refine od_ ?_
     exact wk (hmx10 () trivial) [3, 5, 40, 41] [[_], [_], [_], _, _] [0, 1, 2, 3, 4] rfl rfl
    ·
     refine qo0 1 [(4, .go (owns 0 0 3))] [3, 5, 40] [(42, .agg #[.int .i64 now, .slice q5 m5 c5, .slice p5 k5 d5])] ?_
     refine od_ ?_
     exact wk (hmx11 () trivial) [3, 5, 40, 42] [[_], [_], [_], _, _] [0, 1, 2, 3, 4] rfl rfl
    ·
     refine mo0 1 [] [3, 5, 40] (fun γ215 => [(6, .pointer (some ⟨γ215 0, 0, none⟩))]) (fun γ215 L => bx (γ215 0) (#[.int .i64 0, .slice none 0 0, .slice none 0 0]) 27 :: L) (fun γ215 => ?_)
     refine od_ ?_
     exact wk (hmx12 γ215 trivial) [3, 5, 6, 40] [[_], [_], [_], [_], _, _] [0, 1, 2, 3, 4, 5] rfl rfl
   refine any_cutX (V := Unit) (fun _ => True) 11 #[true, true, false, false, false, false, false, false, false, false, false, false, false] (fun _ => [(3, .pointer (some ⟨γ1 1, 0, none⟩)), (5, .pointer (some ⟨γ6 0, 0, none⟩)), (38, .agg #[.int .i64 now, .slice q5 m5 c5, .slice p5 k5 d5]), (39, .pointer (some ⟨γ1 1, 2, none⟩))]) (fun _ => bx (γ6 0) (#[.int .i64 now, .slice q5 m5 c5, .slice p5 k5 d5]) 27 :: bx (γ1 1) (#[.int .i64 o.kind, .int .i64 o.vcpu, .int .i64 o.al.vcpu, .int .i64 o.al.port, .int .i64 o.al.every, .int .i64 o.time, .bool o.on]) 58 :: bx (γ1 0) (#[.int .i64 now, .slice p n cap, .slice pa na ca]) 27 :: (Y5 ++ (Yx5 ++ []))) ?_ (fun hmx1 => ?_)
   ·
    rintro _ _
    refine any_fork [2, 3, 4, 10] (by kernel_rfl) (by simp) (each_cons _ rfl ?_ (each_cons _ rfl ?_ (each_cons _ rfl ?_ (each_cons _ rfl ?_ (each_nil)))))
    ·
     refine qo0 1 [(2, .go (owns 1 2 3))] [3, 5, 38] [(40, .agg #[.int .i64 o.al.vcpu, .int .i64 o.al.port, .int .i64 o.al.every])] ?_
     refine od_ ?_
     exact wk (hmx6 () trivial) [3, 5, 38, 40] [[_], [_], [_], _, _] [0, 1, 2, 3, 4] rfl rfl
    ·
     refine qo0 1 [(3, .go (owns 1 0 7))] [3, 5, 38, 39] [(41, .agg #[.int .i64 o.kind, .int .i64 o.vcpu, .int .i64 o.al.vcpu, .int .i64 o.al.port, .int .i64 o.al.every, .int .i64 o.time, .bool o.on])] ?_
     refine od_ ?_
     exact wk (hmx7 () trivial) [3, 5, 38, 39, 41] [[_], [_], [_], _, _] [0, 1, 2, 3, 4] rfl rfl
    ·
     refine qo0 1 [(4, .go (owns 0 0 3))] [3, 5, 38, 39] [(42, .agg #[.int .i64 now, .slice q5 m5 c5, .slice p5 k5 d5])] ?_
     refine od_ ?_
     exact wk (hmx8 () trivial) [3, 5, 38, 39, 42] [[_], [_], [_], _, _] [0, 1, 2, 3, 4] rfl rfl
    ·
     refine mo0 1 [] [3, 5, 38, 39] (fun γ215 => [(6, .pointer (some ⟨γ215 0, 0, none⟩))]) (fun γ215 L => bx (γ215 0) (#[.int .i64 0, .slice none 0 0, .slice none 0 0]) 27 :: L) (fun γ215 => ?_)
     refine od_ ?_
     exact wk (hmx9 γ215 trivial) [3, 5, 6, 38, 39] [[_], [_], [_], [_], _, _] [0, 1, 2, 3, 4, 5] rfl rfl
   refine any_fork [0, 2, 3, 4, 10] (by kernel_rfl) (by simp) (each_cons _ rfl ?_ (each_cons _ rfl ?_ (each_cons _ rfl ?_ (each_cons _ rfl ?_ (each_cons _ rfl ?_ (each_nil))))))
   ·
    refine qo0 1 [(0, .go (owns 0 0 3))] [3, 5, 39] [(38, .agg #[.int .i64 now, .slice q5 m5 c5, .slice p5 k5 d5])] ?_
    refine od_ ?_
    exact wk (hmx1 () trivial) [3, 5, 38, 39] [[_], [_], [_], _, _] [0, 1, 2, 3, 4] rfl rfl
   ·
    refine qo0 1 [(2, .go (owns 1 2 3))] [3, 5] [(40, .agg #[.int .i64 o.al.vcpu, .int .i64 o.al.port, .int .i64 o.al.every])] ?_
    refine od_ ?_
    exact wk (hmx2 () trivial) [3, 5, 40] [[_], [_], [_], _, _] [0, 1, 2, 3, 4] rfl rfl
   ·
    refine qo0 1 [(3, .go (owns 1 0 7))] [3, 5, 39] [(41, .agg #[.int .i64 o.kind, .int .i64 o.vcpu, .int .i64 o.al.vcpu, .int .i64 o.al.port, .int .i64 o.al.every, .int .i64 o.time, .bool o.on])] ?_
    refine od_ ?_
    exact wk (hmx3 () trivial) [3, 5, 39, 41] [[_], [_], [_], _, _] [0, 1, 2, 3, 4] rfl rfl
   ·
    refine qo0 1 [(4, .go (owns 0 0 3))] [3, 5, 39] [(42, .agg #[.int .i64 now, .slice q5 m5 c5, .slice p5 k5 d5])] ?_
    refine od_ ?_
    exact wk (hmx4 () trivial) [3, 5, 39, 42] [[_], [_], [_], _, _] [0, 1, 2, 3, 4] rfl rfl
   ·
    refine mo0 1 [] [3, 5, 39] (fun γ215 => [(6, .pointer (some ⟨γ215 0, 0, none⟩))]) (fun γ215 L => bx (γ215 0) (#[.int .i64 0, .slice none 0 0, .slice none 0 0]) 27 :: L) (fun γ215 => ?_)
    refine od_ ?_
    exact wk (hmx5 γ215 trivial) [3, 5, 6, 39] [[_], [_], [_], [_], _, _] [0, 1, 2, 3, 4, 5] rfl rfl
  rintro ⟨Y135, Yx135, c135, d135, er135, k135, m135, nw135, p135, q135, rl135, tl135, γ215⟩ ⟨hE135, hO135, hP135⟩
  refine any_nil (by kernel_rfl) ?_
  refine ds_ (at_cutS [(3, .pointer (some ⟨γ1 1, 0, none⟩)), (5, .pointer (some ⟨γ6 0, 0, none⟩))] (fun hm320 => ?_) ?_)
  ·
   refine sq_ ?_
   rcases q321 : decide (almB o.al = true ∧ aheadP now (otV now o.on o.time)) with _ | _
   ·
    rw [startV_no q8 (of_decide_eq_false q321)] at hE135
    simp only [Prod.mk.injEq] at hE135
    obtain ⟨e1_135, e2_135, e3_135, e4_135⟩ := hE135
    subst e1_135
    subst e2_135
    subst e3_135
    subst e4_135
    have hm135 := hO135.len
    have hn135 := hP135.len
    simp only [List.length_cons, List.length_nil] at hm135
    simp only [List.length_cons, List.length_nil] at hn135
    refine qa0 [] [3, 5, 6] [(48, .bool false)] (ds_ (f_ (at_skip ?_)))
    exact hm320.weakS [3, 5] (by kernel_rfl)
   ·
    rw [startV_ok q8 (of_decide_eq_true q321)] at hE135
    simp only [Prod.mk.injEq] at hE135
    obtain ⟨e1_135, e2_135, e3_135, e4_135⟩ := hE135
    subst e1_135
    subst e2_135
    subst e3_135
    subst e4_135
    have hm135 := hO135.len
    have hn135 := hP135.len
    refine qa0 [] [3, 5, 6] [(48, .bool true)] (ds_ (t_ (sq_ ?_)))
    have hav := of_decide_eq_true q321
    have hai := alm_id hav.1
    have hg1 := start_good q8 hav
    have ht1 : getK Tim.id (tput (shT ts) (o.al.vcpu - 1) (otV now o.on o.time)) (o.al.vcpu - 1) = some ⟨o.al.vcpu - 1, (otV now o.on o.time)⟩ := get_tput_self hgA.gw.rs
    have e1 : getA now (tput (shT ts) (o.al.vcpu - 1) (otV now o.on o.time)) (rput (shR rs) o.al) o.al.vcpu = some (o.al, (otV now o.on o.time)) := getA_is hg1 (get_rput_self hgA.rr) ht1
    have hg2 := stop_good hg1 ht1
    have e2 : getA now (delK Tim.id (tput (shT ts) (o.al.vcpu - 1) (otV now o.on o.time)) (o.al.vcpu - 1)) (rdrop (rput (shR rs) o.al) o.al.vcpu) o.al.vcpu = none := getA_not get_rdrop_self
    have e3 := stopV_ok hg1 (vc_of hav.1) ht1
    have hl1 := (al_iff.1 hg1).gw.len
    have hl1r := (al_iff.1 hg1).rl
    have hl2 := (al_iff.1 hg2).gw.len
    have hl2r := (al_iff.1 hg2).rl
    have hno := get_del_self (al_iff.1 hg1).gw.rs ht1
    have hsp : now ≤ 1125899906842624 ∧ (1125899906842624 : Int) ≤ 1125899906842624 := ⟨hn1, Int.le_refl _⟩
    refine ao_ (qo0 4 [(0, .go (owns 0 0 3)), (3, .go (owns 2 2 1))] [3, 5, 6] [(50, .agg #[.int .i64 now, .slice q135 m135 c135, .slice p135 k135 d135]), (53, .int .i64 o.al.vcpu)] (cD (.tuple #[.agg #[.int .i64 o.al.vcpu, .int .i64 o.al.port, .int .i64 o.al.every], .int .i64 ((otV now o.on o.time)), .bool true]) Try.call14 (fun w hw => by have := aget_t now q135 m135 c135 ((tput (shT ts) (o.al.vcpu - 1) (otV now o.on o.time))) p135 k135 d135 ((rput (shR rs) o.al)) o.al.vcpu w (hO135.atN (A := [_, _, _, _]) hw) hO135.len (by omega) (hP135.atN (A := (_ :: _ :: _ :: _ :: Y135)) hw) hP135.len (by omega) (by omega) (by omega); rw [e1] at this; exact this) (mo0 8 [(10, .go (owns 0 0 3))] [3, 5, 6] (fun γ325 => [(8, .pointer (some ⟨γ325 0, 0, none⟩)), (9, .int .i64 ((otV now o.on o.time))), (10, .bool true)]) (fun γ325 L => bx (γ325 0) (#[.int .i64 o.al.vcpu, .int .i64 o.al.port, .int .i64 o.al.every]) 47 :: L) (fun γ325 => on_ (ds_ (sq_ (ao_ (qo0 4 [(0, .go (owns 1 0 3)), (3, .go (owns 3 2 1))] [3, 5, 8, 9, 10] [(59, .agg #[.int .i64 now, .slice q135 m135 c135, .slice p135 k135 d135]), (62, .int .i64 o.al.vcpu)] (cP (fun v L' => ∃ q_ m_ c_ Y_ q2_ m2_ c2_ X_, v = .tuple #[.agg #[.int .i64 now, .slice q_ m_ c_, .slice q2_ m2_ c2_], .int .i64 0] ∧ L' = List.take 5 (bx (γ325 0) (#[.int .i64 o.al.vcpu, .int .i64 o.al.port, .int .i64 o.al.every]) 47 :: bx (γ215 0) (#[.int .i64 now, .slice q135 m135 c135, .slice p135 k135 d135]) 27 :: bx (γ6 0) (#[.int .i64 now, .slice q5 m5 c5, .slice p5 k5 d5]) 27 :: bx (γ1 1) (#[.int .i64 o.kind, .int .i64 o.vcpu, .int .i64 o.al.vcpu, .int .i64 o.al.port, .int .i64 o.al.every, .int .i64 o.time, .bool o.on]) 58 :: bx (γ1 0) (#[.int .i64 now, .slice p n cap, .slice pa na ca]) 27 :: (Y135 ++ (Yx135 ++ (Y5 ++ (Yx5 ++ []))))) ++ (Y_ ++ (X_ ++ List.drop 5 (bx (γ325 0) (#[.int .i64 o.al.vcpu, .int .i64 o.al.port, .int .i64 o.al.every]) 47 :: bx (γ215 0) (#[.int .i64 now, .slice q135 m135 c135, .slice p135 k135 d135]) 27 :: bx (γ6 0) (#[.int .i64 now, .slice q5 m5 c5, .slice p5 k5 d5]) 27 :: bx (γ1 1) (#[.int .i64 o.kind, .int .i64 o.vcpu, .int .i64 o.al.vcpu, .int .i64 o.al.port, .int .i64 o.al.every, .int .i64 o.time, .bool o.on]) 58 :: bx (γ1 0) (#[.int .i64 now, .slice p n cap, .slice pa na ca]) 27 :: (Y135 ++ (Yx135 ++ (Y5 ++ (Yx5 ++ []))))))) ∧ SlO 88 Y_ q_ m_ c_ (delK Tim.id (tput (shT ts) (o.al.vcpu - 1) (otV now o.on o.time)) (o.al.vcpu - 1)) ∧ SlO 47 X_ q2_ m2_ c2_ (rdrop (rput (shR rs) o.al) o.al.vcpu)) Try.call23 (fun w hw => by have := stop_t now q135 m135 c135 ((tput (shT ts) (o.al.vcpu - 1) (otV now o.on o.time))) p135 k135 d135 ((rput (shR rs) o.al)) o.al.vcpu w (hO135.atN (A := [_, _, _, _, _]) hw) hO135.len (by omega) (hP135.atN (A := (_ :: _ :: _ :: _ :: _ :: Y135)) hw) hP135.len (by omega); rw [e3] at this; exact this.mono fun e w' ⟨q_, m_, c_, Y_, q2_, m2_, c2_, X_, he, h1, h2, hb, hY⟩ => ⟨_, _, he, ⟨q_, m_, c_, Y_, q2_, m2_, c2_, X_, rfl, rfl, h1, h2⟩, hw.joinT hb hY 5⟩) ?_)))))))))
    rintro v327 L327 ⟨q327, m327, c327, Y327, p327, k327, d327, Yx327, rfl, rfl, hO327, hP327⟩
    have hm327 := hO327.len
    have hn327 := hP327.len
    refine mo0 6 [(9, .go (owns 0 0 3))] [3, 5, 8, 9, 10] (fun γ328 => [(11, .pointer (some ⟨γ328 0, 0, none⟩)), (12, .int .i64 0)]) (fun γ328 L => bx (γ328 0) (#[.int .i64 now, .slice q327 m327 c327, .slice p327 k327 d327]) 27 :: L) (fun γ328 => on_ (ds_ (sq_ (ao_ (qo0 4 [(0, .go (owns 0 0 3)), (3, .go (owns 4 2 1))] [3, 5, 8, 9, 10, 11, 12] [(67, .agg #[.int .i64 now, .slice q327 m327 c327, .slice p327 k327 d327]), (70, .int .i64 o.al.vcpu)] (cD (.tuple #[.agg #[.int .i64 0, .int .i64 0, .int .i64 0], .int .i64 0, .bool false]) Try.call14 (fun w hw => by have := aget_t now q327 m327 c327 ((delK Tim.id (tput (shT ts) (o.al.vcpu - 1) (otV now o.on o.time)) (o.al.vcpu - 1))) p327 k327 d327 ((rdrop (rput (shR rs) o.al) o.al.vcpu)) o.al.vcpu w (hO327.atN (A := [_, _, _, _, _, _]) hw) hO327.len (by omega) (hP327.atN (A := (_ :: _ :: _ :: _ :: _ :: _ :: Y327)) hw) hP327.len (by omega) (by omega) (by omega); rw [e2] at this; exact this) (mo0 8 [(10, .go (owns 0 0 3))] [3, 5, 8, 9, 10, 11, 12] (fun γ330 => [(15, .bool false)]) (fun γ330 L => bx (γ330 0) (#[.int .i64 0, .int .i64 0, .int .i64 0]) 47 :: L) (fun γ330 => on_ (ds_ (sq_ (ao_ (qo0 1 [(0, .go (owns 1 0 3))] [3, 5, 8, 9, 10, 12, 15] [(76, .agg #[.int .i64 now, .slice q327 m327 c327, .slice p327 k327 d327])] (cP (fun v L' => ∃ q_ m_ c_ Y_ q2_ m2_ c2_ X_ q3_ m3_ c3_ Z_, v = .tuple #[.agg #[.int .i64 1125899906842624, .slice q_ m_ c_, .slice q2_ m2_ c2_], .slice q3_ m3_ c3_, .int .i64 0] ∧ L' = List.take 7 (bx (γ330 0) (#[.int .i64 0, .int .i64 0, .int .i64 0]) 47 :: bx (γ328 0) (#[.int .i64 now, .slice q327 m327 c327, .slice p327 k327 d327]) 27 :: bx (γ325 0) (#[.int .i64 o.al.vcpu, .int .i64 o.al.port, .int .i64 o.al.every]) 47 :: bx (γ215 0) (#[.int .i64 now, .slice q135 m135 c135, .slice p135 k135 d135]) 27 :: bx (γ6 0) (#[.int .i64 now, .slice q5 m5 c5, .slice p5 k5 d5]) 27 :: bx (γ1 1) (#[.int .i64 o.kind, .int .i64 o.vcpu, .int .i64 o.al.vcpu, .int .i64 o.al.port, .int .i64 o.al.every, .int .i64 o.time, .bool o.on]) 58 :: bx (γ1 0) (#[.int .i64 now, .slice p n cap, .slice pa na ca]) 27 :: (Y327 ++ (Yx327 ++ (Y135 ++ (Yx135 ++ (Y5 ++ (Yx5 ++ []))))))) ++ (Y_ ++ (X_ ++ (Z_ ++ List.drop 7 (bx (γ330 0) (#[.int .i64 0, .int .i64 0, .int .i64 0]) 47 :: bx (γ328 0) (#[.int .i64 now, .slice q327 m327 c327, .slice p327 k327 d327]) 27 :: bx (γ325 0) (#[.int .i64 o.al.vcpu, .int .i64 o.al.port, .int .i64 o.al.every]) 47 :: bx (γ215 0) (#[.int .i64 now, .slice q135 m135 c135, .slice p135 k135 d135]) 27 :: bx (γ6 0) (#[.int .i64 now, .slice q5 m5 c5, .slice p5 k5 d5]) 27 :: bx (γ1 1) (#[.int .i64 o.kind, .int .i64 o.vcpu, .int .i64 o.al.vcpu, .int .i64 o.al.port, .int .i64 o.al.every, .int .i64 o.time, .bool o.on]) 58 :: bx (γ1 0) (#[.int .i64 now, .slice p n cap, .slice pa na ca]) 27 :: (Y327 ++ (Yx327 ++ (Y135 ++ (Yx135 ++ (Y5 ++ (Yx5 ++ [])))))))))) ∧ SlO 88 Y_ q_ m_ c_ ((ringsV 1125899906842624 (delK Tim.id (tput (shT ts) (o.al.vcpu - 1) (otV now o.on o.time)) (o.al.vcpu - 1)) (rdrop (rput (shR rs) o.al) o.al.vcpu)).1) ∧ SlO 47 X_ q2_ m2_ c2_ ((ringsV 1125899906842624 (delK Tim.id (tput (shT ts) (o.al.vcpu - 1) (otV now o.on o.time)) (o.al.vcpu - 1)) (rdrop (rput (shR rs) o.al) o.al.vcpu)).2.1) ∧ SlO 44 Z_ q3_ m3_ c3_ ((ringsV 1125899906842624 (delK Tim.id (tput (shT ts) (o.al.vcpu - 1) (otV now o.on o.time)) (o.al.vcpu - 1)) (rdrop (rput (shR rs) o.al) o.al.vcpu)).2.2)) Try.call10 (fun w hw => by have := apass_t now q327 m327 c327 ((delK Tim.id (tput (shT ts) (o.al.vcpu - 1) (otV now o.on o.time)) (o.al.vcpu - 1))) p327 k327 d327 ((rdrop (rput (shR rs) o.al) o.al.vcpu)) 1125899906842624 w (hO327.atN (A := [_, _, _, _, _, _, _]) hw) hO327.len (by omega) (hP327.atN (A := (_ :: _ :: _ :: _ :: _ :: _ :: _ :: Y327)) hw) hP327.len (by omega); rw [passA_ok hg2 hsp, passR_ok hg2 hsp] at this; exact this.mono fun e w' ⟨q_, m_, c_, Y_, q2_, m2_, c2_, X_, q3_, m3_, c3_, Z_, he, h1, h2, h3, hb, hY⟩ => ⟨_, _, he, ⟨q_, m_, c_, Y_, q2_, m2_, c2_, X_, q3_, m3_, c3_, Z_, rfl, rfl, h1, h2, h3⟩, hw.joinZ hb hY 7⟩) ?_)))))))))))))
    rintro v332 L332 ⟨q332, m332, c332, Y332, p332, k332, d332, Yx332, pz332, kz332, dz332, Yz332, rfl, rfl, hO332, hP332, hZ332⟩
    have hm332 := hO332.len
    have hn332 := hP332.len
    have hz332 := hZ332.len
    refine mo0 8 [(7, .go (owns 0 0 3))] [3, 5, 8, 9, 10, 12, 15] (fun γ333 => [(17, .slice pz332 kz332 dz332), (18, .int .i64 0)]) (fun γ333 L => bx (γ333 0) (#[.int .i64 1125899906842624, .slice q332 m332 c332, .slice p332 k332 d332]) 27 :: L) (fun γ333 => on_ (ds_ (sq_ (sq_ (ao_ (qo 12 [(3, .go (owns 3 0 3)), (5, .go (owns 6 2 3)), (6, .eqs false), (10, .go (owns 6 0 7)), (11, .go (owns 5 0 3))] [3, 5, 12, 15, 17, 18] [(89, .bool false), (90, .int .i64 ((otV now o.on o.time))), (91, .agg #[.int .i64 o.kind, .int .i64 o.vcpu, .int .i64 o.al.vcpu, .int .i64 o.al.port, .int .i64 o.al.every, .int .i64 o.time, .bool o.on]), (92, .agg #[.int .i64 now, .slice q5 m5 c5, .slice p5 k5 d5])] ([EqRun Try.prog .neq 47 (.tmp 84) (.tmp 86) (.agg #[.int .i64 o.al.vcpu, .int .i64 o.al.port, .int .i64 o.al.every]) (.agg #[.int .i64 o.al.vcpu, .int .i64 o.al.port, .int .i64 o.al.every]) false]) (al1 (alm_ne_t (a := o.al) (b := o.al) rfl)) (cD (.int .i64 ((otV now o.on o.time))) Try.call22 (fun w hw => ot_t o now q5 m5 c5 ((shT ts)) p5 k5 d5 ((shR rs)) w hn0 hn1) (qo 13 [(13, .no)] [3, 5, 17] [(106, .bool false)] ([¬ (((otV now o.on o.time) : Int) ≠ ((otV now o.on o.time) : Int))]) (al1 ((fun h => h rfl))) (on_ (ds_ (f_ (at_skip (ds_ (sq_ ?_))))))))))))))
    have hrl := rings_len (al_iff.1 hg2) hsp.1 hsp.2
    refine qa0 [] [3, 5] [(107, .slice pz332 kz332 dz332), (108, .int .i64 ((kz332 : Nat))), (109, .int .i64 0)] (ds_ (at_block (at_loop (α := Nat) [3, 5, 107, 108, 109] (fun j => [(3, .pointer (some ⟨γ1 1, 0, none⟩)), (5, .pointer (some ⟨γ6 0, 0, none⟩)), (107, .slice pz332 kz332 dz332), (108, .int .i64 ((kz332 : Nat))), (109, .int .i64 ((j : Nat)))]) (fun j => bx (γ333 0) (#[.int .i64 1125899906842624, .slice q332 m332 c332, .slice p332 k332 d332]) 27 :: bx (γ330 0) (#[.int .i64 0, .int .i64 0, .int .i64 0]) 47 :: bx (γ328 0) (#[.int .i64 now, .slice q327 m327 c327, .slice p327 k327 d327]) 27 :: bx (γ325 0) (#[.int .i64 o.al.vcpu, .int .i64 o.al.port, .int .i64 o.al.every]) 47 :: bx (γ215 0) (#[.int .i64 now, .slice q135 m135 c135, .slice p135 k135 d135]) 27 :: bx (γ6 0) (#[.int .i64 now, .slice q5 m5 c5, .slice p5 k5 d5]) 27 :: bx (γ1 1) (#[.int .i64 o.kind, .int .i64 o.vcpu, .int .i64 o.al.vcpu, .int .i64 o.al.port, .int .i64 o.al.every, .int .i64 o.time, .bool o.on]) 58 :: bx (γ1 0) (#[.int .i64 now, .slice p n cap, .slice pa na ca]) 27 :: (Y332 ++ (Yx332 ++ (Yz332 ++ (Y327 ++ (Yx327 ++ (Y135 ++ (Yx135 ++ (Y5 ++ (Yx5 ++ [])))))))))) (fun j => j ≤ kz332) (fun j => kz332 - j) 0 (by kernel_rfl) rfl (Nat.zero_le _) ?_)))
    rintro j
    rintro hj
    refine sq_ ?_
    by_cases q338 : ((j : Nat) : Int) < ((kz332 : Nat) : Int)
    ·
     refine qa [(0, .yes)] [3, 5, 107, 108, 109] [(110, .bool true)] ([((j : Nat) : Int) < ((kz332 : Nat) : Int)]) (al1 q338) (ds_ (sq_ (t_ (at_skip (ds_ (sq_ (at_block (sq_ (At.pick [[bx (γ333 0) (#[.int .i64 1125899906842624, .slice q332 m332 c332, .slice p332 k332 d332]) 27], [bx (γ330 0) (#[.int .i64 0, .int .i64 0, .int .i64 0]) 47], [bx (γ328 0) (#[.int .i64 now, .slice q327 m327 c327, .slice p327 k327 d327]) 27], [bx (γ325 0) (#[.int .i64 o.al.vcpu, .int .i64 o.al.port, .int .i64 o.al.every]) 47], [bx (γ215 0) (#[.int .i64 now, .slice q135 m135 c135, .slice p135 k135 d135]) 27], [bx (γ6 0) (#[.int .i64 now, .slice q5 m5 c5, .slice p5 k5 d5]) 27], [bx (γ1 1) (#[.int .i64 o.kind, .int .i64 o.vcpu, .int .i64 o.al.vcpu, .int .i64 o.al.port, .int .i64 o.al.every, .int .i64 o.time, .bool o.on]) 58], [bx (γ1 0) (#[.int .i64 now, .slice p n cap, .slice pa na ca]) 27], Y332, Yx332, Yz332, Y327, Yx327, Y135, Yx135, Y5, Yx5] [0, 1, 2, 3, 4, 5, 6, 7, 10, 8, 9, 11, 12, 13, 14, 15, 16] [] (bx (γ333 0) (#[.int .i64 1125899906842624, .slice q332 m332 c332, .slice p332 k332 d332]) 27 :: bx (γ330 0) (#[.int .i64 0, .int .i64 0, .int .i64 0]) 47 :: bx (γ328 0) (#[.int .i64 now, .slice q327 m327 c327, .slice p327 k327 d327]) 27 :: bx (γ325 0) (#[.int .i64 o.al.vcpu, .int .i64 o.al.port, .int .i64 o.al.every]) 47 :: bx (γ215 0) (#[.int .i64 now, .slice q135 m135 c135, .slice p135 k135 d135]) 27 :: bx (γ6 0) (#[.int .i64 now, .slice q5 m5 c5, .slice p5 k5 d5]) 27 :: bx (γ1 1) (#[.int .i64 o.kind, .int .i64 o.vcpu, .int .i64 o.al.vcpu, .int .i64 o.al.port, .int .i64 o.al.every, .int .i64 o.time, .bool o.on]) 58 :: bx (γ1 0) (#[.int .i64 now, .slice p n cap, .slice pa na ca]) 27 :: (Yz332 ++ (Y332 ++ (Yx332 ++ (Y327 ++ (Yx327 ++ (Y135 ++ (Yx135 ++ (Y5 ++ (Yx5 ++ [])))))))))) (by kernel_rfl) rfl rfl ?_)))))))))
     have hln341 := hZ332.len
     obtain ⟨g341, cs341, rfl, rfl, hOw341⟩ := hZ332.rowOf (i := j) (by omega)
     obtain ⟨x343, hx343⟩ := get_some (l := ((ringsV 1125899906842624 (delK Tim.id (tput (shT ts) (o.al.vcpu - 1) (otV now o.on o.time)) (o.al.vcpu - 1)) (rdrop (rput (shR rs) o.al) o.al.vcpu)).2.2)) (m := j) (by omega)
     refine ma [(0, .at g341 0 j), (1, .go (ownps 8 (0 + j * 4) [.int .i64 x343.vcpu, .int .i64 x343.port, .int .i64 x343.at_, .int .i64 x343.missed])), (3, .go (owns 0 0 4))] [3, 5, 107, 108, 109] (fun γ344 => [(20, .pointer (some ⟨γ344 0, 0, none⟩))]) (fun γ344 L => bx (γ344 0) (#[.int .i64 x343.vcpu, .int .i64 x343.port, .int .i64 x343.at_, .int .i64 x343.missed]) 44 :: L) (fun γ344 => [(some ⟨g341, 0, none⟩ : Option Addr) = some ⟨g341, 0, none⟩, ((j : Nat)) = ((j : Nat) : Int), j < kz332] ++ (acellsP cs341 (0 + j * 4) [.int .i64 x343.vcpu, .int .i64 x343.port, .int .i64 x343.at_, .int .i64 x343.missed])) (fun γ344 => (alA (al2 rfl (al2 rfl (al1 (by omega)))) (rda_pre ((hOw341.rdx hZ332.len hx343)) _ rfl))) (fun γ344 => ds_ (sq_ ?_))
     by_cases q346 : (x343.vcpu : Int) = (o.al.vcpu : Int)
     ·
      by_cases q348 : (x343.port : Int) > (0 : Int)
      ·
       refine qa [(1, .go (owns 0 0 1)), (4, .go (owns 7 2 1)), (5, .yes), (8, .go (owns 0 1 1)), (9, .yes)] [3, 5, 107, 108, 109] [(123, .bool true)] ([(x343.vcpu : Int) = (o.al.vcpu : Int)] ++ ([(x343.port : Int) > (0 : Int)])) (alA (al1 q346) (al1 q348)) (ds_ (t_ (sq_ (qa0 [] [] [(4, .bool false)] (ds_ (rt ([]) (.bool false) ?_))))))
       exfalso; exact stop_mute hg2 hsp.1 hsp.2 hno (List.mem_of_getElem? hx343) q346 q348
      ·
       refine qa [(1, .go (owns 0 0 1)), (4, .go (owns 7 2 1)), (5, .yes), (8, .go (owns 0 1 1)), (9, .no)] [3, 5, 107, 108, 109] [(123, .bool false)] ([(x343.vcpu : Int) = (o.al.vcpu : Int)] ++ ([¬ ((x343.port : Int) > (0 : Int))])) (alA (al1 q346) (al1 q348)) (ds_ (f_ (at_skip (done_block (ds_ (qa [(0, .fit)] [3, 5, 107, 108] [(109, .int .i64 ((j + 1 : Nat)))] ([Fit .i64 ((j + 1 : Nat))]) (al1 (fit64 (by omega) (by omega))) (Done.pick [[bx (γ344 0) (#[.int .i64 x343.vcpu, .int .i64 x343.port, .int .i64 x343.at_, .int .i64 x343.missed]) 44], [bx (γ333 0) (#[.int .i64 1125899906842624, .slice q332 m332 c332, .slice p332 k332 d332]) 27], [bx (γ330 0) (#[.int .i64 0, .int .i64 0, .int .i64 0]) 47], [bx (γ328 0) (#[.int .i64 now, .slice q327 m327 c327, .slice p327 k327 d327]) 27], [bx (γ325 0) (#[.int .i64 o.al.vcpu, .int .i64 o.al.port, .int .i64 o.al.every]) 47], [bx (γ215 0) (#[.int .i64 now, .slice q135 m135 c135, .slice p135 k135 d135]) 27], [bx (γ6 0) (#[.int .i64 now, .slice q5 m5 c5, .slice p5 k5 d5]) 27], [bx (γ1 1) (#[.int .i64 o.kind, .int .i64 o.vcpu, .int .i64 o.al.vcpu, .int .i64 o.al.port, .int .i64 o.al.every, .int .i64 o.time, .bool o.on]) 58], [bx (γ1 0) (#[.int .i64 now, .slice p n cap, .slice pa na ca]) 27], [bx g341 cs341 44], Y332, Yx332, Y327, Yx327, Y135, Yx135, Y5, Yx5] [1, 2, 3, 4, 5, 6, 7, 8, 10, 11, 9, 12, 13, 14, 15, 16, 17] [0] (bx (γ333 0) (#[.int .i64 1125899906842624, .slice q332 m332 c332, .slice p332 k332 d332]) 27 :: bx (γ330 0) (#[.int .i64 0, .int .i64 0, .int .i64 0]) 47 :: bx (γ328 0) (#[.int .i64 now, .slice q327 m327 c327, .slice p327 k327 d327]) 27 :: bx (γ325 0) (#[.int .i64 o.al.vcpu, .int .i64 o.al.port, .int .i64 o.al.every]) 47 :: bx (γ215 0) (#[.int .i64 now, .slice q135 m135 c135, .slice p135 k135 d135]) 27 :: bx (γ6 0) (#[.int .i64 now, .slice q5 m5 c5, .slice p5 k5 d5]) 27 :: bx (γ1 1) (#[.int .i64 o.kind, .int .i64 o.vcpu, .int .i64 o.al.vcpu, .int .i64 o.al.port, .int .i64 o.al.every, .int .i64 o.time, .bool o.on]) 58 :: bx (γ1 0) (#[.int .i64 now, .slice p n cap, .slice pa na ca]) 27 :: (Y332 ++ (Yx332 ++ ([bx g341 cs341 44] ++ (Y327 ++ (Yx327 ++ (Y135 ++ (Yx135 ++ (Y5 ++ (Yx5 ++ [])))))))))) (by kernel_rfl) rfl rfl ?_)))))))
       exact done_round [3, 5, 107, 108, 109] (j + 1) (by kernel_rfl) rfl (by omega) (by first | omega | (simp only; omega))
     ·
      refine qa [(1, .go (owns 0 0 1)), (4, .go (owns 7 2 1)), (5, .no)] [3, 5, 107, 108, 109] [(123, .bool false)] ([¬ ((x343.vcpu : Int) = (o.al.vcpu : Int))]) (al1 q346) (ds_ (f_ (at_skip (done_block (ds_ (qa [(0, .fit)] [3, 5, 107, 108] [(109, .int .i64 ((j + 1 : Nat)))] ([Fit .i64 ((j + 1 : Nat))]) (al1 (fit64 (by omega) (by omega))) (Done.pick [[bx (γ344 0) (#[.int .i64 x343.vcpu, .int .i64 x343.port, .int .i64 x343.at_, .int .i64 x343.missed]) 44], [bx (γ333 0) (#[.int .i64 1125899906842624, .slice q332 m332 c332, .slice p332 k332 d332]) 27], [bx (γ330 0) (#[.int .i64 0, .int .i64 0, .int .i64 0]) 47], [bx (γ328 0) (#[.int .i64 now, .slice q327 m327 c327, .slice p327 k327 d327]) 27], [bx (γ325 0) (#[.int .i64 o.al.vcpu, .int .i64 o.al.port, .int .i64 o.al.every]) 47], [bx (γ215 0) (#[.int .i64 now, .slice q135 m135 c135, .slice p135 k135 d135]) 27], [bx (γ6 0) (#[.int .i64 now, .slice q5 m5 c5, .slice p5 k5 d5]) 27], [bx (γ1 1) (#[.int .i64 o.kind, .int .i64 o.vcpu, .int .i64 o.al.vcpu, .int .i64 o.al.port, .int .i64 o.al.every, .int .i64 o.time, .bool o.on]) 58], [bx (γ1 0) (#[.int .i64 now, .slice p n cap, .slice pa na ca]) 27], [bx g341 cs341 44], Y332, Yx332, Y327, Yx327, Y135, Yx135, Y5, Yx5] [1, 2, 3, 4, 5, 6, 7, 8, 10, 11, 9, 12, 13, 14, 15, 16, 17] [0] (bx (γ333 0) (#[.int .i64 1125899906842624, .slice q332 m332 c332, .slice p332 k332 d332]) 27 :: bx (γ330 0) (#[.int .i64 0, .int .i64 0, .int .i64 0]) 47 :: bx (γ328 0) (#[.int .i64 now, .slice q327 m327 c327, .slice p327 k327 d327]) 27 :: bx (γ325 0) (#[.int .i64 o.al.vcpu, .int .i64 o.al.port, .int .i64 o.al.every]) 47 :: bx (γ215 0) (#[.int .i64 now, .slice q135 m135 c135, .slice p135 k135 d135]) 27 :: bx (γ6 0) (#[.int .i64 now, .slice q5 m5 c5, .slice p5 k5 d5]) 27 :: bx (γ1 1) (#[.int .i64 o.kind, .int .i64 o.vcpu, .int .i64 o.al.vcpu, .int .i64 o.al.port, .int .i64 o.al.every, .int .i64 o.time, .bool o.on]) 58 :: bx (γ1 0) (#[.int .i64 now, .slice p n cap, .slice pa na ca]) 27 :: (Y332 ++ (Yx332 ++ ([bx g341 cs341 44] ++ (Y327 ++ (Yx327 ++ (Y135 ++ (Yx135 ++ (Y5 ++ (Yx5 ++ [])))))))))) (by kernel_rfl) rfl rfl ?_)))))))
      exact done_round [3, 5, 107, 108, 109] (j + 1) (by kernel_rfl) rfl (by omega) (by first | omega | (simp only; omega))
    ·
     refine qa [(0, .no)] [3, 5, 107, 108, 109] [(110, .bool false)] ([¬ (((j : Nat) : Int) < ((kz332 : Nat) : Int))]) (al1 q338) (ds_ (sq_ (f_ (at_leave _ rfl (Done.pick [[bx (γ333 0) (#[.int .i64 1125899906842624, .slice q332 m332 c332, .slice p332 k332 d332]) 27], [bx (γ330 0) (#[.int .i64 0, .int .i64 0, .int .i64 0]) 47], [bx (γ328 0) (#[.int .i64 now, .slice q327 m327 c327, .slice p327 k327 d327]) 27], [bx (γ325 0) (#[.int .i64 o.al.vcpu, .int .i64 o.al.port, .int .i64 o.al.every]) 47], [bx (γ215 0) (#[.int .i64 now, .slice q135 m135 c135, .slice p135 k135 d135]) 27], [bx (γ6 0) (#[.int .i64 now, .slice q5 m5 c5, .slice p5 k5 d5]) 27], [bx (γ1 1) (#[.int .i64 o.kind, .int .i64 o.vcpu, .int .i64 o.al.vcpu, .int .i64 o.al.port, .int .i64 o.al.every, .int .i64 o.time, .bool o.on]) 58], [bx (γ1 0) (#[.int .i64 now, .slice p n cap, .slice pa na ca]) 27], Y332, Yx332, Yz332, Y327, Yx327, Y135, Yx135, Y5, Yx5] [4, 5, 6, 7, 13, 14, 15, 16] [0, 1, 2, 3, 8, 9, 10, 11, 12] (bx (γ215 0) (#[.int .i64 now, .slice q135 m135 c135, .slice p135 k135 d135]) 27 :: bx (γ6 0) (#[.int .i64 now, .slice q5 m5 c5, .slice p5 k5 d5]) 27 :: bx (γ1 1) (#[.int .i64 o.kind, .int .i64 o.vcpu, .int .i64 o.al.vcpu, .int .i64 o.al.port, .int .i64 o.al.every, .int .i64 o.time, .bool o.on]) 58 :: bx (γ1 0) (#[.int .i64 now, .slice p n cap, .slice pa na ca]) 27 :: (Y135 ++ (Yx135 ++ (Y5 ++ (Yx5 ++ []))))) (by kernel_rfl) rfl rfl ?_)))))
     exact hm320.weakS [3, 5] (by kernel_rfl)
  ·
   refine sq_ ?_
   refine at_any (by kernel_rfl) ?_
   refine tk (m := 12) [1] [] [3, 5] [(127, .pointer (some ⟨γ1 1, 1, none⟩))] ([]) #[false, true, false, false, false, false, false, false, false, false, false, false, false] al0 ?_
   refine any_cutX (V := (List Ob) × (List Ob) × (Nat) × (Nat) × (Int) × (Nat) × (Nat) × (Int) × (Option Addr) × (Option Addr) × (List Alm) × (List Tim) × (Nat → Nat)) (fun ⟨Y479, Yx479, c479, d479, er479, k479, m479, nw479, p479, q479, rl479, tl479, γ559⟩ => sleepV now (shT ts) (shR rs) o.vcpu (otV now o.on o.time) = (nw479, tl479, rl479, er479) ∧ SlO 88 Y479 q479 m479 c479 tl479 ∧ SlO 47 Yx479 p479 k479 d479 rl479) 0 #[true, true, true, true, true, true, true, true, true, true, true, true, true] (fun ⟨Y479, Yx479, c479, d479, er479, k479, m479, nw479, p479, q479, rl479, tl479, γ559⟩ => [(3, .pointer (some ⟨γ1 1, 0, none⟩)), (5, .pointer (some ⟨γ6 0, 0, none⟩)), (7, .int .i64 er479), (21, .pointer (some ⟨γ559 0, 0, none⟩))]) (fun ⟨Y479, Yx479, c479, d479, er479, k479, m479, nw479, p479, q479, rl479, tl479, γ559⟩ => bx (γ559 0) (#[.int .i64 nw479, .slice q479 m479 c479, .slice p479 k479 d479]) 27 :: bx (γ215 0) (#[.int .i64 nw135, .slice q135 m135 c135, .slice p135 k135 d135]) 27 :: bx (γ6 0) (#[.int .i64 now, .slice q5 m5 c5, .slice p5 k5 d5]) 27 :: bx (γ1 1) (#[.int .i64 o.kind, .int .i64 o.vcpu, .int .i64 o.al.vcpu, .int .i64 o.al.port, .int .i64 o.al.every, .int .i64 o.time, .bool o.on]) 58 :: bx (γ1 0) (#[.int .i64 now, .slice p n cap, .slice pa na ca]) 27 :: (Y479 ++ (Yx479 ++ (Y135 ++ (Yx135 ++ (Y5 ++ (Yx5 ++ []))))))) ?_ (fun hmx42 => ?_)
   rotate_left
   ·
    refine any_cutX (V := (List Ob) × (List Ob) × (Nat) × (Nat) × (Int) × (Nat) × (Nat) × (Int) × (Option Addr) × (Option Addr) × (List Alm) × (List Tim) × (Nat → Nat)) (fun ⟨Y479, Yx479, c479, d479, er479, k479, m479, nw479, p479, q479, rl479, tl479, γ559⟩ => sleepV now (shT ts) (shR rs) o.vcpu (otV now o.on o.time) = (nw479, tl479, rl479, er479) ∧ SlO 88 Y479 q479 m479 c479 tl479 ∧ SlO 47 Yx479 p479 k479 d479 rl479) 2 #[true, true, true, true, true, true, true, true, true, true, true, false, false] (fun ⟨Y479, Yx479, c479, d479, er479, k479, m479, nw479, p479, q479, rl479, tl479, γ559⟩ => [(3, .pointer (some ⟨γ1 1, 0, none⟩)), (5, .pointer (some ⟨γ6 0, 0, none⟩)), (21, .pointer (some ⟨γ559 0, 0, none⟩)), (133, .agg #[.int .i64 nw479, .slice q479 m479 c479, .slice p479 k479 d479]), (134, .int .i64 er479)]) (fun ⟨Y479, Yx479, c479, d479, er479, k479, m479, nw479, p479, q479, rl479, tl479, γ559⟩ => bx (γ559 0) (#[.int .i64 0, .slice none 0 0, .slice none 0 0]) 27 :: bx (γ215 0) (#[.int .i64 nw135, .slice q135 m135 c135, .slice p135 k135 d135]) 27 :: bx (γ6 0) (#[.int .i64 now, .slice q5 m5 c5, .slice p5 k5 d5]) 27 :: bx (γ1 1) (#[.int .i64 o.kind, .int .i64 o.vcpu, .int .i64 o.al.vcpu, .int .i64 o.al.port, .int .i64 o.al.every, .int .i64 o.time, .bool o.on]) 58 :: bx (γ1 0) (#[.int .i64 now, .slice p n cap, .slice pa na ca]) 27 :: (Y479 ++ (Yx479 ++ (Y135 ++ (Yx135 ++ (Y5 ++ (Yx5 ++ []))))))) ?_ (fun hmx41 => ?_)
    ·
     rintro ⟨Y479, Yx479, c479, d479, er479, k479, m479, nw479, p479, q479, rl479, tl479, γ559⟩ ⟨hE479, hO479, hP479⟩
     refine a1 11 rfl ?_
     refine mo0 1 [(11, .go (owns 0 0 3))] [3, 5, 21, 134] (fun _ => []) (fun _ L => (L.set 0 (bx (γ559 0) (#[.int .i64 nw479, .slice q479 m479 c479, .slice p479 k479 d479]) 27))) (fun _ => ?_)
     refine od_ ?_
     refine tk (m := 0) [12] [] [3, 5, 21] [(7, .int .i64 er479)] ([]) #[true, true, true, true, true, true, true, true, true, true, true, true, true] al0 ?_
     exact wk (hmx42 (Y479, Yx479, c479, d479, er479, k479, m479, nw479, p479, q479, rl479, tl479, γ559) ⟨hE479, hO479, hP479⟩) [3, 5, 7, 21] [[_], [_], [_], [_], [_], _, _, _, _, _, _] [0, 1, 2, 3, 4, 5, 6, 7, 8, 9, 10] rfl rfl
    refine any_cutX (V := (List Ob) × (List Ob) × (Nat) × (Nat) × (Int) × (Nat) × (Nat) × (Int) × (Option Addr) × (Option Addr) × (List Alm) × (List Tim)) (fun ⟨Y479, Yx479, c479, d479, er479, k479, m479, nw479, p479, q479, rl479, tl479⟩ => sleepV now (shT ts) (shR rs) o.vcpu (otV now o.on o.time) = (nw479, tl479, rl479, er479) ∧ SlO 88 Y479 q479 m479 c479 tl479 ∧ SlO 47 Yx479 p479 k479 d479 rl479) 3 #[true, true, true, true, true, true, true, true, true, true, false, false, false] (fun ⟨Y479, Yx479, c479, d479, er479, k479, m479, nw479, p479, q479, rl479, tl479⟩ => [(3, .pointer (some ⟨γ1 1, 0, none⟩)), (5, .pointer (some ⟨γ6 0, 0, none⟩)), (133, .agg #[.int .i64 nw479, .slice q479 m479 c479, .slice p479 k479 d479]), (134, .int .i64 er479)]) (fun ⟨Y479, Yx479, c479, d479, er479, k479, m479, nw479, p479, q479, rl479, tl479⟩ => bx (γ215 0) (#[.int .i64 nw135, .slice q135 m135 c135, .slice p135 k135 d135]) 27 :: bx (γ6 0) (#[.int .i64 now, .slice q5 m5 c5, .slice p5 k5 d5]) 27 :: bx (γ1 1) (#[.int .i64 o.kind, .int .i64 o.vcpu, .int .i64 o.al.vcpu, .int .i64 o.al.port, .int .i64 o.al.every, .int .i64 o.time, .bool o.on]) 58 :: bx (γ1 0) (#[.int .i64 now, .slice p n cap, .slice pa na ca]) 27 :: (Y479 ++ (Yx479 ++ (Y135 ++ (Yx135 ++ (Y5 ++ (Yx5 ++ []))))))) ?_ (fun hmx40 => ?_)
    ·
     rintro ⟨Y479, Yx479, c479, d479, er479, k479, m479, nw479, p479, q479, rl479, tl479⟩ ⟨hE479, hO479, hP479⟩
     refine a1 10 rfl ?_
     refine mo0 1 [] [3, 5, 133, 134] (fun γ559 => [(21, .pointer (some ⟨γ559 0, 0, none⟩))]) (fun γ559 L => bx (γ559 0) (#[.int .i64 0, .slice none 0 0, .slice none 0 0]) 27 :: L) (fun γ559 => ?_)
     refine od_ ?_
     exact wk (hmx41 (Y479, Yx479, c479, d479, er479, k479, m479, nw479, p479, q479, rl479, tl479, γ559) ⟨hE479, hO479, hP479⟩) [3, 5, 21, 133, 134] [[_], [_], [_], [_], [_], _, _, _, _, _, _] [0, 1, 2, 3, 4, 5, 6, 7, 8, 9, 10] rfl rfl
    refine any_cutX (V := (Nat → Nat)) (fun γ559 => True) 6 #[true, true, true, true, true, true, false, false, false, false, true, false, false] (fun γ559 => [(3, .pointer (some ⟨γ1 1, 0, none⟩)), (5, .pointer (some ⟨γ6 0, 0, none⟩)), (21, .pointer (some ⟨γ559 0, 0, none⟩)), (126, .agg #[.int .i64 now, .slice q5 m5 c5, .slice p5 k5 d5]), (128, .int .i64 o.vcpu), (131, .int .i64 ((otV now o.on o.time)))]) (fun γ559 => bx (γ559 0) (#[.int .i64 0, .slice none 0 0, .slice none 0 0]) 27 :: bx (γ215 0) (#[.int .i64 nw135, .slice q135 m135 c135, .slice p135 k135 d135]) 27 :: bx (γ6 0) (#[.int .i64 now, .slice q5 m5 c5, .slice p5 k5 d5]) 27 :: bx (γ1 1) (#[.int .i64 o.kind, .int .i64 o.vcpu, .int .i64 o.al.vcpu, .int .i64 o.al.port, .int .i64 o.al.every, .int .i64 o.time, .bool o.on]) 58 :: bx (γ1 0) (#[.int .i64 now, .slice p n cap, .slice pa na ca]) 27 :: (Y135 ++ (Yx135 ++ (Y5 ++ (Yx5 ++ []))))) ?_ (fun hmx39 => ?_)
    ·
     rintro γ559 _
     refine a1 6 rfl ?_
     refine cP (fun v L' => ∃ nw_ tl_ rl_ er_ q_ m_ c_ Y_ q2_ m2_ c2_ X_, v = .tuple #[.agg #[.int .i64 nw_, .slice q_ m_ c_, .slice q2_ m2_ c2_], .int .i64 er_] ∧ L' = List.take 5 (bx (γ559 0) (#[.int .i64 0, .slice none 0 0, .slice none 0 0]) 27 :: bx (γ215 0) (#[.int .i64 nw135, .slice q135 m135 c135, .slice p135 k135 d135]) 27 :: bx (γ6 0) (#[.int .i64 now, .slice q5 m5 c5, .slice p5 k5 d5]) 27 :: bx (γ1 1) (#[.int .i64 o.kind, .int .i64 o.vcpu, .int .i64 o.al.vcpu, .int .i64 o.al.port, .int .i64 o.al.every, .int .i64 o.time, .bool o.on]) 58 :: bx (γ1 0) (#[.int .i64 now, .slice p n cap, .slice pa na ca]) 27 :: (Y135 ++ (Yx135 ++ (Y5 ++ (Yx5 ++ []))))) ++ (Y_ ++ (X_ ++ List.drop 5 (bx (γ559 0) (#[.int .i64 0, .slice none 0 0, .slice none 0 0]) 27 :: bx (γ215 0) (#[.int .i64 nw135, .slice q135 m135 c135, .slice p135 k135 d135]) 27 :: bx (γ6 0) (#[.int .i64 now, .slice q5 m5 c5, .slice p5 k5 d5]) 27 :: bx (γ1 1) (#[.int .i64 o.kind, .int .i64 o.vcpu, .int .i64 o.al.vcpu, .int .i64 o.al.port, .int .i64 o.al.every, .int .i64 o.time, .bool o.on]) 58 :: bx (γ1 0) (#[.int .i64 now, .slice p n cap, .slice pa na ca]) 27 :: (Y135 ++ (Yx135 ++ (Y5 ++ (Yx5 ++ []))))))) ∧ SlO 88 Y_ q_ m_ c_ tl_ ∧ SlO 47 X_ q2_ m2_ c2_ rl_ ∧ sleepV now (shT ts) (shR rs) o.vcpu (otV now o.on o.time) = (nw_, tl_, rl_, er_)) Try.call24 (fun w hw => (sleep_t now q5 m5 c5 ((shT ts)) p5 k5 d5 ((shR rs)) o.vcpu (otV now o.on o.time) w (hO5.at ((hw.tailN 5).sub ((List.sublist_append_right Yx135 _).trans (List.sublist_append_right Y135 _)))) hO5.len (by omega) (hP5.at ((hw.tailN 5).sub (((List.sublist_append_right Y5 _).trans (List.sublist_append_right Yx135 _)).trans (List.sublist_append_right Y135 _)))) hP5.len (by omega)).mono fun e w' ⟨q_, m_, c_, Y_, q2_, m2_, c2_, X_, he, h1, h2, hb, hY⟩ => ⟨_, _, he, ⟨_, _, _, _, q_, m_, c_, Y_, q2_, m2_, c2_, X_, rfl, rfl, h1, h2, rfl⟩, hw.joinT hb hY 5⟩) ?_
     rintro v479 L479 ⟨nw479, tl479, rl479, er479, q479, m479, c479, Y479, p479, k479, d479, Yx479, rfl, rfl, hO479, hP479, hE479⟩
     refine od_ ?_
     refine tk (m := 2) [7, 8, 9] [] [3, 5, 21] [(133, .agg #[.int .i64 nw479, .slice q479 m479 c479, .slice p479 k479 d479]), (134, .int .i64 er479)] ([]) #[true, true, true, true, true, true, true, true, true, true, true, false, false] al0 ?_
     exact wk (hmx41 (Y479, Yx479, c479, d479, er479, k479, m479, nw479, p479, q479, rl479, tl479, γ559) ⟨hE479, hO479, hP479⟩) [3, 5, 21, 133, 134] [[_], [_], [_], [_], [_], _, _, _, _, _, _] [0, 1, 2, 3, 4, 5, 6, 7, 8, 9, 10] rfl rfl
    refine any_cutX (V := (Nat → Nat)) (fun γ559 => True) 7 #[false, true, true, true, true, true, false, false, false, false, true, false, false] (fun γ559 => [(3, .pointer (some ⟨γ1 1, 0, none⟩)), (5, .pointer (some ⟨γ6 0, 0, none⟩)), (21, .pointer (some ⟨γ559 0, 0, none⟩)), (128, .int .i64 o.vcpu), (131, .int .i64 ((otV now o.on o.time)))]) (fun γ559 => bx (γ559 0) (#[.int .i64 0, .slice none 0 0, .slice none 0 0]) 27 :: bx (γ215 0) (#[.int .i64 nw135, .slice q135 m135 c135, .slice p135 k135 d135]) 27 :: bx (γ6 0) (#[.int .i64 now, .slice q5 m5 c5, .slice p5 k5 d5]) 27 :: bx (γ1 1) (#[.int .i64 o.kind, .int .i64 o.vcpu, .int .i64 o.al.vcpu, .int .i64 o.al.port, .int .i64 o.al.every, .int .i64 o.time, .bool o.on]) 58 :: bx (γ1 0) (#[.int .i64 now, .slice p n cap, .slice pa na ca]) 27 :: (Y135 ++ (Yx135 ++ (Y5 ++ (Yx5 ++ []))))) ?_ (fun hmx38 => ?_)
    ·
     rintro γ559 _
     refine a1 0 rfl ?_
     refine qo0 1 [(0, .go (owns 2 0 3))] [3, 5, 21, 128, 131] [(126, .agg #[.int .i64 now, .slice q5 m5 c5, .slice p5 k5 d5])] ?_
     refine od_ ?_
     exact wk (hmx39 γ559 trivial) [3, 5, 21, 126, 128, 131] [[_], [_], [_], [_], [_], _, _, _, _] [0, 1, 2, 3, 4, 5, 6, 7, 8] rfl rfl
    refine any_cutX (V := (Nat → Nat)) (fun γ559 => True) 7 #[true, true, false, true, true, true, false, false, false, false, true, false, false] (fun γ559 => [(3, .pointer (some ⟨γ1 1, 0, none⟩)), (5, .pointer (some ⟨γ6 0, 0, none⟩)), (21, .pointer (some ⟨γ559 0, 0, none⟩)), (126, .agg #[.int .i64 now, .slice q5 m5 c5, .slice p5 k5 d5]), (127, .pointer (some ⟨γ1 1, 1, none⟩)), (131, .int .i64 ((otV now o.on o.time)))]) (fun γ559 => bx (γ559 0) (#[.int .i64 0, .slice none 0 0, .slice none 0 0]) 27 :: bx (γ215 0) (#[.int .i64 nw135, .slice q135 m135 c135, .slice p135 k135 d135]) 27 :: bx (γ6 0) (#[.int .i64 now, .slice q5 m5 c5, .slice p5 k5 d5]) 27 :: bx (γ1 1) (#[.int .i64 o.kind, .int .i64 o.vcpu, .int .i64 o.al.vcpu, .int .i64 o.al.port, .int .i64 o.al.every, .int .i64 o.time, .bool o.on]) 58 :: bx (γ1 0) (#[.int .i64 now, .slice p n cap, .slice pa na ca]) 27 :: (Y135 ++ (Yx135 ++ (Y5 ++ (Yx5 ++ []))))) ?_ (fun hmx37 => ?_)
    ·
     rintro γ559 _
     refine a1 2 rfl ?_
     refine qo0 1 [(2, .go (owns 3 1 1))] [3, 5, 21, 126, 131] [(128, .int .i64 o.vcpu)] ?_
     refine od_ ?_
     exact wk (hmx39 γ559 trivial) [3, 5, 21, 126, 128, 131] [[_], [_], [_], [_], [_], _, _, _, _] [0, 1, 2, 3, 4, 5, 6, 7, 8] rfl rfl
    refine any_cutX (V := (Nat → Nat)) (fun γ559 => True) 7 #[true, true, true, true, true, false, false, false, false, false, true, false, false] (fun γ559 => [(3, .pointer (some ⟨γ1 1, 0, none⟩)), (5, .pointer (some ⟨γ6 0, 0, none⟩)), (21, .pointer (some ⟨γ559 0, 0, none⟩)), (126, .agg #[.int .i64 now, .slice q5 m5 c5, .slice p5 k5 d5]), (128, .int .i64 o.vcpu), (129, .agg #[.int .i64 o.kind, .int .i64 o.vcpu, .int .i64 o.al.vcpu, .int .i64 o.al.port, .int .i64 o.al.every, .int .i64 o.time, .bool o.on]), (130, .agg #[.int .i64 now, .slice q5 m5 c5, .slice p5 k5 d5])]) (fun γ559 => bx (γ559 0) (#[.int .i64 0, .slice none 0 0, .slice none 0 0]) 27 :: bx (γ215 0) (#[.int .i64 nw135, .slice q135 m135 c135, .slice p135 k135 d135]) 27 :: bx (γ6 0) (#[.int .i64 now, .slice q5 m5 c5, .slice p5 k5 d5]) 27 :: bx (γ1 1) (#[.int .i64 o.kind, .int .i64 o.vcpu, .int .i64 o.al.vcpu, .int .i64 o.al.port, .int .i64 o.al.every, .int .i64 o.time, .bool o.on]) 58 :: bx (γ1 0) (#[.int .i64 now, .slice p n cap, .slice pa na ca]) 27 :: (Y135 ++ (Yx135 ++ (Y5 ++ (Yx5 ++ []))))) ?_ (fun hmx36 => ?_)
    ·
     rintro γ559 _
     refine a1 5 rfl ?_
     refine cD (.int .i64 ((otV now o.on o.time))) Try.call22 (fun w hw => ot_t o now q5 m5 c5 ((shT ts)) p5 k5 d5 ((shR rs)) w hn0 hn1) ?_
     refine od_ ?_
     exact wk (hmx39 γ559 trivial) [3, 5, 21, 126, 128, 131] [[_], [_], [_], [_], [_], _, _, _, _] [0, 1, 2, 3, 4, 5, 6, 7, 8] rfl rfl
    refine any_cutX (V := Unit) (fun _ => True) 7 #[true, true, true, true, true, true, false, false, false, false, false, false, false] (fun _ => [(3, .pointer (some ⟨γ1 1, 0, none⟩)), (5, .pointer (some ⟨γ6 0, 0, none⟩)), (126, .agg #[.int .i64 now, .slice q5 m5 c5, .slice p5 k5 d5]), (128, .int .i64 o.vcpu), (131, .int .i64 ((otV now o.on o.time)))]) (fun _ => bx (γ215 0) (#[.int .i64 nw135, .slice q135 m135 c135, .slice p135 k135 d135]) 27 :: bx (γ6 0) (#[.int .i64 now, .slice q5 m5 c5, .slice p5 k5 d5]) 27 :: bx (γ1 1) (#[.int .i64 o.kind, .int .i64 o.vcpu, .int .i64 o.al.vcpu, .int .i64 o.al.port, .int .i64 o.al.every, .int .i64 o.time, .bool o.on]) 58 :: bx (γ1 0) (#[.int .i64 now, .slice p n cap, .slice pa na ca]) 27 :: (Y135 ++ (Yx135 ++ (Y5 ++ (Yx5 ++ []))))) ?_ (fun hmx35 => ?_)
    ·
     rintro _ _
     refine any_fork [6, 10] (by kernel_rfl) (by simp) (each_cons _ rfl ?_ (each_cons _ rfl ?_ (each_nil)))
     ·
      refine cP (fun v L' => ∃ nw_ tl_ rl_ er_ q_ m_ c_ Y_ q2_ m2_ c2_ X_, v = .tuple #[.agg #[.int .i64 nw_, .slice q_ m_ c_, .slice q2_ m2_ c2_], .int .i64 er_] ∧ L' = List.take 4 (bx (γ215 0) (#[.int .i64 nw135, .slice q135 m135 c135, .slice p135 k135 d135]) 27 :: bx (γ6 0) (#[.int .i64 now, .slice q5 m5 c5, .slice p5 k5 d5]) 27 :: bx (γ1 1) (#[.int .i64 o.kind, .int .i64 o.vcpu, .int .i64 o.al.vcpu, .int .i64 o.al.port, .int .i64 o.al.every, .int .i64 o.time, .bool o.on]) 58 :: bx (γ1 0) (#[.int .i64 now, .slice p n cap, .slice pa na ca]) 27 :: (Y135 ++ (Yx135 ++ (Y5 ++ (Yx5 ++ []))))) ++ (Y_ ++ (X_ ++ List.drop 4 (bx (γ215 0) (#[.int .i64 nw135, .slice q135 m135 c135, .slice p135 k135 d135]) 27 :: bx (γ6 0) (#[.int .i64 now, .slice q5 m5 c5, .slice p5 k5 d5]) 27 :: bx (γ1 1) (#[.int .i64 o.kind, .int .i64 o.vcpu, .int .i64 o.al.vcpu, .int .i64 o.al.port, .int .i64 o.al.every, .int .i64 o.time, .bool o.on]) 58 :: bx (γ1 0) (#[.int .i64 now, .slice p n cap, .slice pa na ca]) 27 :: (Y135 ++ (Yx135 ++ (Y5 ++ (Yx5 ++ []))))))) ∧ SlO 88 Y_ q_ m_ c_ tl_ ∧ SlO 47 X_ q2_ m2_ c2_ rl_ ∧ sleepV now (shT ts) (shR rs) o.vcpu (otV now o.on o.time) = (nw_, tl_, rl_, er_)) Try.call24 (fun w hw => (sleep_t now q5 m5 c5 ((shT ts)) p5 k5 d5 ((shR rs)) o.vcpu (otV now o.on o.time) w (hO5.at ((hw.tailN 4).sub ((List.sublist_append_right Yx135 _).trans (List.sublist_append_right Y135 _)))) hO5.len (by omega) (hP5.at ((hw.tailN 4).sub (((List.sublist_append_right Y5 _).trans (List.sublist_append_right Yx135 _)).trans (List.sublist_append_right Y135 _)))) hP5.len (by omega)).mono fun e w' ⟨q_, m_, c_, Y_, q2_, m2_, c2_, X_, he, h1, h2, hb, hY⟩ => ⟨_, _, he, ⟨_, _, _, _, q_, m_, c_, Y_, q2_, m2_, c2_, X_, rfl, rfl, h1, h2, rfl⟩, hw.joinT hb hY 4⟩) ?_
      rintro v479 L479 ⟨nw479, tl479, rl479, er479, q479, m479, c479, Y479, p479, k479, d479, Yx479, rfl, rfl, hO479, hP479, hE479⟩
      refine od_ ?_
      refine tk (m := 3) [7, 8, 9] [] [3, 5] [(133, .agg #[.int .i64 nw479, .slice q479 m479 c479, .slice p479 k479 d479]), (134, .int .i64 er479)] ([]) #[true, true, true, true, true, true, true, true, true, true, false, false, false] al0 ?_
      exact wk (hmx40 (Y479, Yx479, c479, d479, er479, k479, m479, nw479, p479, q479, rl479, tl479) ⟨hE479, hO479, hP479⟩) [3, 5, 133, 134] [[_], [_], [_], [_], _, _, _, _, _, _] [0, 1, 2, 3, 4, 5, 6, 7, 8, 9] rfl rfl
     ·
      refine mo0 1 [] [3, 5, 126, 128, 131] (fun γ559 => [(21, .pointer (some ⟨γ559 0, 0, none⟩))]) (fun γ559 L => bx (γ559 0) (#[.int .i64 0, .slice none 0 0, .slice none 0 0]) 27 :: L) (fun γ559 => ?_)
      refine od_ ?_
      exact wk (hmx39 γ559 trivial) [3, 5, 21, 126, 128, 131] [[_], [_], [_], [_], [_], _, _, _, _] [0, 1, 2, 3, 4, 5, 6, 7, 8] rfl rfl
    refine any_cutX (V := (Nat → Nat)) (fun γ559 => True) 8 #[false, true, false, true, true, true, false, false, false, false, true, false, false] (fun γ559 => [(3, .pointer (some ⟨γ1 1, 0, none⟩)), (5, .pointer (some ⟨γ6 0, 0, none⟩)), (21, .pointer (some ⟨γ559 0, 0, none⟩)), (127, .pointer (some ⟨γ1 1, 1, none⟩)), (131, .int .i64 ((otV now o.on o.time)))]) (fun γ559 => bx (γ559 0) (#[.int .i64 0, .slice none 0 0, .slice none 0 0]) 27 :: bx (γ215 0) (#[.int .i64 nw135, .slice q135 m135 c135, .slice p135 k135 d135]) 27 :: bx (γ6 0) (#[.int .i64 now, .slice q5 m5 c5, .slice p5 k5 d5]) 27 :: bx (γ1 1) (#[.int .i64 o.kind, .int .i64 o.vcpu, .int .i64 o.al.vcpu, .int .i64 o.al.port, .int .i64 o.al.every, .int .i64 o.time, .bool o.on]) 58 :: bx (γ1 0) (#[.int .i64 now, .slice p n cap, .slice pa na ca]) 27 :: (Y135 ++ (Yx135 ++ (Y5 ++ (Yx5 ++ []))))) ?_ (fun hmx34 => ?_)
    ·
     rintro γ559 _
     refine any_fork [0, 2] (by kernel_rfl) (by simp) (each_cons _ rfl ?_ (each_cons _ rfl ?_ (each_nil)))
     ·
      refine qo0 1 [(0, .go (owns 2 0 3))] [3, 5, 21, 127, 131] [(126, .agg #[.int .i64 now, .slice q5 m5 c5, .slice p5 k5 d5])] ?_
      refine od_ ?_
      exact wk (hmx37 γ559 trivial) [3, 5, 21, 126, 127, 131] [[_], [_], [_], [_], [_], _, _, _, _] [0, 1, 2, 3, 4, 5, 6, 7, 8] rfl rfl
     ·
      refine qo0 1 [(2, .go (owns 3 1 1))] [3, 5, 21, 131] [(128, .int .i64 o.vcpu)] ?_
      refine od_ ?_
      exact wk (hmx38 γ559 trivial) [3, 5, 21, 128, 131] [[_], [_], [_], [_], [_], _, _, _, _] [0, 1, 2, 3, 4, 5, 6, 7, 8] rfl rfl
    refine any_cutX (V := (Nat → Nat)) (fun γ559 => True) 8 #[false, true, true, true, true, false, false, false, false, false, true, false, false] (fun γ559 => [(3, .pointer (some ⟨γ1 1, 0, none⟩)), (5, .pointer (some ⟨γ6 0, 0, none⟩)), (21, .pointer (some ⟨γ559 0, 0, none⟩)), (128, .int .i64 o.vcpu), (129, .agg #[.int .i64 o.kind, .int .i64 o.vcpu, .int .i64 o.al.vcpu, .int .i64 o.al.port, .int .i64 o.al.every, .int .i64 o.time, .bool o.on]), (130, .agg #[.int .i64 now, .slice q5 m5 c5, .slice p5 k5 d5])]) (fun γ559 => bx (γ559 0) (#[.int .i64 0, .slice none 0 0, .slice none 0 0]) 27 :: bx (γ215 0) (#[.int .i64 nw135, .slice q135 m135 c135, .slice p135 k135 d135]) 27 :: bx (γ6 0) (#[.int .i64 now, .slice q5 m5 c5, .slice p5 k5 d5]) 27 :: bx (γ1 1) (#[.int .i64 o.kind, .int .i64 o.vcpu, .int .i64 o.al.vcpu, .int .i64 o.al.port, .int .i64 o.al.every, .int .i64 o.time, .bool o.on]) 58 :: bx (γ1 0) (#[.int .i64 now, .slice p n cap, .slice pa na ca]) 27 :: (Y135 ++ (Yx135 ++ (Y5 ++ (Yx5 ++ []))))) ?_ (fun hmx33 => ?_)
    ·
     rintro γ559 _
     refine any_fork [0, 5] (by kernel_rfl) (by simp) (each_cons _ rfl ?_ (each_cons _ rfl ?_ (each_nil)))
     ·
      refine qo0 1 [(0, .go (owns 2 0 3))] [3, 5, 21, 128, 129, 130] [(126, .agg #[.int .i64 now, .slice q5 m5 c5, .slice p5 k5 d5])] ?_
      refine od_ ?_
      exact wk (hmx36 γ559 trivial) [3, 5, 21, 126, 128, 129, 130] [[_], [_], [_], [_], [_], _, _, _, _] [0, 1, 2, 3, 4, 5, 6, 7, 8] rfl rfl
     ·
      refine cD (.int .i64 ((otV now o.on o.time))) Try.call22 (fun w hw => ot_t o now q5 m5 c5 ((shT ts)) p5 k5 d5 ((shR rs)) w hn0 hn1) ?_
      refine od_ ?_
      exact wk (hmx38 γ559 trivial) [3, 5, 21, 128, 131] [[_], [_], [_], [_], [_], _, _, _, _] [0, 1, 2, 3, 4, 5, 6, 7, 8] rfl rfl
    refine any_cutX (V := Unit) (fun _ => True) 8 #[false, true, true, true, true, true, false, false, false, false, false, false, false] (fun _ => [(3, .pointer (some ⟨γ1 1, 0, none⟩)), (5, .pointer (some ⟨γ6 0, 0, none⟩)), (128, .int .i64 o.vcpu), (131, .int .i64 ((otV now o.on o.time)))]) (fun _ => bx (γ215 0) (#[.int .i64 nw135, .slice q135 m135 c135, .slice p135 k135 d135]) 27 :: bx (γ6 0) (#[.int .i64 now, .slice q5 m5 c5, .slice p5 k5 d5]) 27 :: bx (γ1 1) (#[.int .i64 o.kind, .int .i64 o.vcpu, .int .i64 o.al.vcpu, .int .i64 o.al.port, .int .i64 o.al.every, .int .i64 o.time, .bool o.on]) 58 :: bx (γ1 0) (#[.int .i64 now, .slice p n cap, .slice pa na ca]) 27 :: (Y135 ++ (Yx135 ++ (Y5 ++ (Yx5 ++ []))))) ?_ (fun hmx32 => ?_)
    ·
     rintro _ _
     refine any_fork [0, 10] (by kernel_rfl) (by simp) (each_cons _ rfl ?_ (each_cons _ rfl ?_ (each_nil)))
     ·
      refine qo0 1 [(0, .go (owns 1 0 3))] [3, 5, 128, 131] [(126, .agg #[.int .i64 now, .slice q5 m5 c5, .slice p5 k5 d5])] ?_
      refine od_ ?_
      exact wk (hmx35 () trivial) [3, 5, 126, 128, 131] [[_], [_], [_], [_], _, _, _, _] [0, 1, 2, 3, 4, 5, 6, 7] rfl rfl
     ·
      refine mo0 1 [] [3, 5, 128, 131] (fun γ559 => [(21, .pointer (some ⟨γ559 0, 0, none⟩))]) (fun γ559 L => bx (γ559 0) (#[.int .i64 0, .slice none 0 0, .slice none 0 0]) 27 :: L) (fun γ559 => ?_)
      refine od_ ?_
      exact wk (hmx38 γ559 trivial) [3, 5, 21, 128, 131] [[_], [_], [_], [_], [_], _, _, _, _] [0, 1, 2, 3, 4, 5, 6, 7, 8] rfl rfl
    refine any_cutX (V := (Nat → Nat)) (fun γ559 => True) 8 #[true, true, false, true, true, false, false, false, false, false, true, false, false] (fun γ559 => [(3, .pointer (some ⟨γ1 1, 0, none⟩)), (5, .pointer (some ⟨γ6 0, 0, none⟩)), (21, .pointer (some ⟨γ559 0, 0, none⟩)), (126, .agg #[.int .i64 now, .slice q5 m5 c5, .slice p5 k5 d5]), (127, .pointer (some ⟨γ1 1, 1, none⟩)), (129, .agg #[.int .i64 o.kind, .int .i64 o.vcpu, .int .i64 o.al.vcpu, .int .i64 o.al.port, .int .i64 o.al.every, .int .i64 o.time, .bool o.on]), (130, .agg #[.int .i64 now, .slice q5 m5 c5, .slice p5 k5 d5])]) (fun γ559 => bx (γ559 0) (#[.int .i64 0, .slice none 0 0, .slice none 0 0]) 27 :: bx (γ215 0) (#[.int .i64 nw135, .slice q135 m135 c135, .slice p135 k135 d135]) 27 :: bx (γ6 0) (#[.int .i64 now, .slice q5 m5 c5, .slice p5 k5 d5]) 27 :: bx (γ1 1) (#[.int .i64 o.kind, .int .i64 o.vcpu, .int .i64 o.al.vcpu, .int .i64 o.al.port, .int .i64 o.al.every, .int .i64 o.time, .bool o.on]) 58 :: bx (γ1 0) (#[.int .i64 now, .slice p n cap, .slice pa na ca]) 27 :: (Y135 ++ (Yx135 ++ (Y5 ++ (Yx5 ++ []))))) ?_ (fun hmx31 => ?_)
    ·
     rintro γ559 _
     refine any_fork [2, 5] (by kernel_rfl) (by simp) (each_cons _ rfl ?_ (each_cons _ rfl ?_ (each_nil)))
     ·
      refine qo0 1 [(2, .go (owns 3 1 1))] [3, 5, 21, 126, 129, 130] [(128, .int .i64 o.vcpu)] ?_
      refine od_ ?_
      exact wk (hmx36 γ559 trivial) [3, 5, 21, 126, 128, 129, 130] [[_], [_], [_], [_], [_], _, _, _, _] [0, 1, 2, 3, 4, 5, 6, 7, 8] rfl rfl
     ·
      refine cD (.int .i64 ((otV now o.on o.time))) Try.call22 (fun w hw => ot_t o now q5 m5 c5 ((shT ts)) p5 k5 d5 ((shR rs)) w hn0 hn1) ?_
      refine od_ ?_
      exact wk (hmx37 γ559 trivial) [3, 5, 21, 126, 127, 131] [[_], [_], [_], [_], [_], _, _, _, _] [0, 1, 2, 3, 4, 5, 6, 7, 8] rfl rfl
    refine any_cutX (V := Unit) (fun _ => True) 8 #[true, true, false, true, true, true, false, false, false, false, false, false, false] (fun _ => [(3, .pointer (some ⟨γ1 1, 0, none⟩)), (5, .pointer (some ⟨γ6 0, 0, none⟩)), (126, .agg #[.int .i64 now, .slice q5 m5 c5, .slice p5 k5 d5]), (127, .pointer (some ⟨γ1 1, 1, none⟩)), (131, .int .i64 ((otV now o.on o.time)))]) (fun _ => bx (γ215 0) (#[.int .i64 nw135, .slice q135 m135 c135, .slice p135 k135 d135]) 27 :: bx (γ6 0) (#[.int .i64 now, .slice q5 m5 c5, .slice p5 k5 d5]) 27 :: bx (γ1 1) (#[.int .i64 o.kind, .int .i64 o.vcpu, .int .i64 o.al.vcpu, .int .i64 o.al.port, .int .i64 o.al.every, .int .i64 o.time, .bool o.on]) 58 :: bx (γ1 0) (#[.int .i64 now, .slice p n cap, .slice pa na ca]) 27 :: (Y135 ++ (Yx135 ++ (Y5 ++ (Yx5 ++ []))))) ?_ (fun hmx30 => ?_)
    ·
     rintro _ _
     refine any_fork [2, 10] (by kernel_rfl) (by simp) (each_cons _ rfl ?_ (each_cons _ rfl ?_ (each_nil)))
     ·
      refine qo0 1 [(2, .go (owns 2 1 1))] [3, 5, 126, 131] [(128, .int .i64 o.vcpu)] ?_
      refine od_ ?_
      exact wk (hmx35 () trivial) [3, 5, 126, 128, 131] [[_], [_], [_], [_], _, _, _, _] [0, 1, 2, 3, 4, 5, 6, 7] rfl rfl
     ·
      refine mo0 1 [] [3, 5, 126, 127, 131] (fun γ559 => [(21, .pointer (some ⟨γ559 0, 0, none⟩))]) (fun γ559 L => bx (γ559 0) (#[.int .i64 0, .slice none 0 0, .slice none 0 0]) 27 :: L) (fun γ559 => ?_)
      refine od_ ?_
      exact wk (hmx37 γ559 trivial) [3, 5, 21, 126, 127, 131] [[_], [_], [_], [_], [_], _, _, _, _] [0, 1, 2, 3, 4, 5, 6, 7, 8] rfl rfl
    refine any_cutX (V := (Nat → Nat)) (fun γ559 => True) 8 #[true, true, true, false, true, false, false, false, false, false, true, false, false] (fun γ559 => [(3, .pointer (some ⟨γ1 1, 0, none⟩)), (5, .pointer (some ⟨γ6 0, 0, none⟩)), (21, .pointer (some ⟨γ559 0, 0, none⟩)), (126, .agg #[.int .i64 now, .slice q5 m5 c5, .slice p5 k5 d5]), (128, .int .i64 o.vcpu), (130, .agg #[.int .i64 now, .slice q5 m5 c5, .slice p5 k5 d5])]) (fun γ559 => bx (γ559 0) (#[.int .i64 0, .slice none 0 0, .slice none 0 0]) 27 :: bx (γ215 0) (#[.int .i64 nw135, .slice q135 m135 c135, .slice p135 k135 d135]) 27 :: bx (γ6 0) (#[.int .i64 now, .slice q5 m5 c5, .slice p5 k5 d5]) 27 :: bx (γ1 1) (#[.int .i64 o.kind, .int .i64 o.vcpu, .int .i64 o.al.vcpu, .int .i64 o.al.port, .int .i64 o.al.every, .int .i64 o.time, .bool o.on]) 58 :: bx (γ1 0) (#[.int .i64 now, .slice p n cap, .slice pa na ca]) 27 :: (Y135 ++ (Yx135 ++ (Y5 ++ (Yx5 ++ []))))) ?_ (fun hmx29 => ?_)
    ·
     rintro γ559 _
     refine a1 3 rfl ?_
     refine qo0 1 [(3, .go (owns 3 0 7))] [3, 5, 21, 126, 128, 130] [(129, .agg #[.int .i64 o.kind, .int .i64 o.vcpu, .int .i64 o.al.vcpu, .int .i64 o.al.port, .int .i64 o.al.every, .int .i64 o.time, .bool o.on])] ?_
     refine od_ ?_
     exact wk (hmx36 γ559 trivial) [3, 5, 21, 126, 128, 129, 130] [[_], [_], [_], [_], [_], _, _, _, _] [0, 1, 2, 3, 4, 5, 6, 7, 8] rfl rfl
    refine any_cutX (V := (Nat → Nat)) (fun γ559 => True) 8 #[true, true, true, true, false, false, false, false, false, false, true, false, false] (fun γ559 => [(3, .pointer (some ⟨γ1 1, 0, none⟩)), (5, .pointer (some ⟨γ6 0, 0, none⟩)), (21, .pointer (some ⟨γ559 0, 0, none⟩)), (126, .agg #[.int .i64 now, .slice q5 m5 c5, .slice p5 k5 d5]), (128, .int .i64 o.vcpu), (129, .agg #[.int .i64 o.kind, .int .i64 o.vcpu, .int .i64 o.al.vcpu, .int .i64 o.al.port, .int .i64 o.al.every, .int .i64 o.time, .bool o.on])]) (fun γ559 => bx (γ559 0) (#[.int .i64 0, .slice none 0 0, .slice none 0 0]) 27 :: bx (γ215 0) (#[.int .i64 nw135, .slice q135 m135 c135, .slice p135 k135 d135]) 27 :: bx (γ6 0) (#[.int .i64 now, .slice q5 m5 c5, .slice p5 k5 d5]) 27 :: bx (γ1 1) (#[.int .i64 o.kind, .int .i64 o.vcpu, .int .i64 o.al.vcpu, .int .i64 o.al.port, .int .i64 o.al.every, .int .i64 o.time, .bool o.on]) 58 :: bx (γ1 0) (#[.int .i64 now, .slice p n cap, .slice pa na ca]) 27 :: (Y135 ++ (Yx135 ++ (Y5 ++ (Yx5 ++ []))))) ?_ (fun hmx28 => ?_)
    ·
     rintro γ559 _
     refine a1 4 rfl ?_
     refine qo0 1 [(4, .go (owns 2 0 3))] [3, 5, 21, 126, 128, 129] [(130, .agg #[.int .i64 now, .slice q5 m5 c5, .slice p5 k5 d5])] ?_
     refine od_ ?_
     exact wk (hmx36 γ559 trivial) [3, 5, 21, 126, 128, 129, 130] [[_], [_], [_], [_], [_], _, _, _, _] [0, 1, 2, 3, 4, 5, 6, 7, 8] rfl rfl
    refine any_cutX (V := Unit) (fun _ => True) 8 #[true, true, true, true, true, false, false, false, false, false, false, false, false] (fun _ => [(3, .pointer (some ⟨γ1 1, 0, none⟩)), (5, .pointer (some ⟨γ6 0, 0, none⟩)), (126, .agg #[.int .i64 now, .slice q5 m5 c5, .slice p5 k5 d5]), (128, .int .i64 o.vcpu), (129, .agg #[.int .i64 o.kind, .int .i64 o.vcpu, .int .i64 o.al.vcpu, .int .i64 o.al.port, .int .i64 o.al.every, .int .i64 o.time, .bool o.on]), (130, .agg #[.int .i64 now, .slice q5 m5 c5, .slice p5 k5 d5])]) (fun _ => bx (γ215 0) (#[.int .i64 nw135, .slice q135 m135 c135, .slice p135 k135 d135]) 27 :: bx (γ6 0) (#[.int .i64 now, .slice q5 m5 c5, .slice p5 k5 d5]) 27 :: bx (γ1 1) (#[.int .i64 o.kind, .int .i64 o.vcpu, .int .i64 o.al.vcpu, .int .i64 o.al.port, .int .i64 o.al.every, .int .i64 o.time, .bool o.on]) 58 :: bx (γ1 0) (#[.int .i64 now, .slice p n cap, .slice pa na ca]) 27 :: (Y135 ++ (Yx135 ++ (Y5 ++ (Yx5 ++ []))))) ?_ (fun hmx27 => ?_)
    ·
     rintro _ _
     refine any_fork [5, 10] (by kernel_rfl) (by simp) (each_cons _ rfl ?_ (each_cons _ rfl ?_ (each_nil)))
     ·
      refine cD (.int .i64 ((otV now o.on o.time))) Try.call22 (fun w hw => ot_t o now q5 m5 c5 ((shT ts)) p5 k5 d5 ((shR rs)) w hn0 hn1) ?_
      refine od_ ?_
      exact wk (hmx35 () trivial) [3, 5, 126, 128, 131] [[_], [_], [_], [_], _, _, _, _] [0, 1, 2, 3, 4, 5, 6, 7] rfl rfl
     ·
      refine mo0 1 [] [3, 5, 126, 128, 129, 130] (fun γ559 => [(21, .pointer (some ⟨γ559 0, 0, none⟩))]) (fun γ559 L => bx (γ559 0) (#[.int .i64 0, .slice none 0 0, .slice none 0 0]) 27 :: L) (fun γ559 => ?_)
      refine od_ ?_
      exact wk (hmx36 γ559 trivial) [3, 5, 21, 126, 128, 129, 130] [[_], [_], [_], [_], [_], _, _, _, _] [0, 1, 2, 3, 4, 5, 6, 7, 8] rfl rfl
    refine any_cutX (V := (Nat → Nat)) (fun γ559 => True) 9 #[false, true, false, true, true, false, false, false, false, false, true, false, false] (fun γ559 => [(3, .pointer (some ⟨γ1 1, 0, none⟩)), (5, .pointer (some ⟨γ6 0, 0, none⟩)), (21, .pointer (some ⟨γ559 0, 0, none⟩)), (127, .pointer (some ⟨γ1 1, 1, none⟩)), (129, .agg #[.int .i64 o.kind, .int .i64 o.vcpu, .int .i64 o.al.vcpu, .int .i64 o.al.port, .int .i64 o.al.every, .int .i64 o.time, .bool o.on]), (130, .agg #[.int .i64 now, .slice q5 m5 c5, .slice p5 k5 d5])]) (fun γ559 => bx (γ559 0) (#[.int .i64 0, .slice none 0 0, .slice none 0 0]) 27 :: bx (γ215 0) (#[.int .i64 nw135, .slice q135 m135 c135, .slice p135 k135 d135]) 27 :: bx (γ6 0) (#[.int .i64 now, .slice q5 m5 c5, .slice p5 k5 d5]) 27 :: bx (γ1 1) (#[.int .i64 o.kind, .int .i64 o.vcpu, .int .i64 o.al.vcpu, .int .i64 o.al.port, .int .i64 o.al.every, .int .i64 o.time, .bool o.on]) 58 :: bx (γ1 0) (#[.int .i64 now, .slice p n cap, .slice pa na ca]) 27 :: (Y135 ++ (Yx135 ++ (Y5 ++ (Yx5 ++ []))))) ?_ (fun hmx26 => ?_)
    ·
     rintro γ559 _
     refine any_fork [0, 2, 5] (by kernel_rfl) (by simp) (each_cons _ rfl ?_ (each_cons _ rfl ?_ (each_cons _ rfl ?_ (each_nil))))
     ·
      refine qo0 1 [(0, .go (owns 2 0 3))] [3, 5, 21, 127, 129, 130] [(126, .agg #[.int .i64 now, .slice q5 m5 c5, .slice p5 k5 d5])] ?_
      refine od_ ?_
      exact wk (hmx31 γ559 trivial) [3, 5, 21, 126, 127, 129, 130] [[_], [_], [_], [_], [_], _, _, _, _] [0, 1, 2, 3, 4, 5, 6, 7, 8] rfl rfl
     ·
      refine qo0 1 [(2, .go (owns 3 1 1))] [3, 5, 21, 129, 130] [(128, .int .i64 o.vcpu)] ?_
      refine od_ ?_
      exact wk (hmx33 γ559 trivial) [3, 5, 21, 128, 129, 130] [[_], [_], [_], [_], [_], _, _, _, _] [0, 1, 2, 3, 4, 5, 6, 7, 8] rfl rfl
     ·
      refine cD (.int .i64 ((otV now o.on o.time))) Try.call22 (fun w hw => ot_t o now q5 m5 c5 ((shT ts)) p5 k5 d5 ((shR rs)) w hn0 hn1) ?_
      refine od_ ?_
      exact wk (hmx34 γ559 trivial) [3, 5, 21, 127, 131] [[_], [_], [_], [_], [_], _, _, _, _] [0, 1, 2, 3, 4, 5, 6, 7, 8] rfl rfl
    refine any_cutX (V := Unit) (fun _ => True) 9 #[false, true, false, true, true, true, false, false, false, false, false, false, false] (fun _ => [(3, .pointer (some ⟨γ1 1, 0, none⟩)), (5, .pointer (some ⟨γ6 0, 0, none⟩)), (127, .pointer (some ⟨γ1 1, 1, none⟩)), (131, .int .i64 ((otV now o.on o.time)))]) (fun _ => bx (γ215 0) (#[.int .i64 nw135, .slice q135 m135 c135, .slice p135 k135 d135]) 27 :: bx (γ6 0) (#[.int .i64 now, .slice q5 m5 c5, .slice p5 k5 d5]) 27 :: bx (γ1 1) (#[.int .i64 o.kind, .int .i64 o.vcpu, .int .i64 o.al.vcpu, .int .i64 o.al.port, .int .i64 o.al.every, .int .i64 o.time, .bool o.on]) 58 :: bx (γ1 0) (#[.int .i64 now, .slice p n cap, .slice pa na ca]) 27 :: (Y135 ++ (Yx135 ++ (Y5 ++ (Yx5 ++ []))))) ?_ (fun hmx25 => ?_)
    ·
     rintro _ _
     refine any_fork [0, 2, 10] (by kernel_rfl) (by simp) (each_cons _ rfl ?_ (each_cons _ rfl ?_ (each_cons _ rfl ?_ (each_nil))))
     ·
      refine qo0 1 [(0, .go (owns 1 0 3))] [3, 5, 127, 131] [(126, .agg #[.int .i64 now, .slice q5 m5 c5, .slice p5 k5 d5])] ?_
      refine od_ ?_
      exact wk (hmx30 () trivial) [3, 5, 126, 127, 131] [[_], [_], [_], [_], _, _, _, _] [0, 1, 2, 3, 4, 5, 6, 7] rfl rfl
     ·
      refine qo0 1 [(2, .go (owns 2 1 1))] [3, 5, 131] [(128, .int .i64 o.vcpu)] ?_
      refine od_ ?_
      exact wk (hmx32 () trivial) [3, 5, 128, 131] [[_], [_], [_], [_], _, _, _, _] [0, 1, 2, 3, 4, 5, 6, 7] rfl rfl
     ·
      refine mo0 1 [] [3, 5, 127, 131] (fun γ559 => [(21, .pointer (some ⟨γ559 0, 0, none⟩))]) (fun γ559 L => bx (γ559 0) (#[.int .i64 0, .slice none 0 0, .slice none 0 0]) 27 :: L) (fun γ559 => ?_)
      refine od_ ?_
      exact wk (hmx34 γ559 trivial) [3, 5, 21, 127, 131] [[_], [_], [_], [_], [_], _, _, _, _] [0, 1, 2, 3, 4, 5, 6, 7, 8] rfl rfl
    refine any_cutX (V := (Nat → Nat)) (fun γ559 => True) 9 #[false, true, true, false, true, false, false, false, false, false, true, false, false] (fun γ559 => [(3, .pointer (some ⟨γ1 1, 0, none⟩)), (5, .pointer (some ⟨γ6 0, 0, none⟩)), (21, .pointer (some ⟨γ559 0, 0, none⟩)), (128, .int .i64 o.vcpu), (130, .agg #[.int .i64 now, .slice q5 m5 c5, .slice p5 k5 d5])]) (fun γ559 => bx (γ559 0) (#[.int .i64 0, .slice none 0 0, .slice none 0 0]) 27 :: bx (γ215 0) (#[.int .i64 nw135, .slice q135 m135 c135, .slice p135 k135 d135]) 27 :: bx (γ6 0) (#[.int .i64 now, .slice q5 m5 c5, .slice p5 k5 d5]) 27 :: bx (γ1 1) (#[.int .i64 o.kind, .int .i64 o.vcpu, .int .i64 o.al.vcpu, .int .i64 o.al.port, .int .i64 o.al.every, .int .i64 o.time, .bool o.on]) 58 :: bx (γ1 0) (#[.int .i64 now, .slice p n cap, .slice pa na ca]) 27 :: (Y135 ++ (Yx135 ++ (Y5 ++ (Yx5 ++ []))))) ?_ (fun hmx24 => ?_)
    ·
     rintro γ559 _
     refine any_fork [0, 3] (by kernel_rfl) (by simp) (each_cons _ rfl ?_ (each_cons _ rfl ?_ (each_nil)))
     ·
      refine qo0 1 [(0, .go (owns 2 0 3))] [3, 5, 21, 128, 130] [(126, .agg #[.int .i64 now, .slice q5 m5 c5, .slice p5 k5 d5])] ?_
      refine od_ ?_
      exact wk (hmx29 γ559 trivial) [3, 5, 21, 126, 128, 130] [[_], [_], [_], [_], [_], _, _, _, _] [0, 1, 2, 3, 4, 5, 6, 7, 8] rfl rfl
     ·
      refine qo0 1 [(3, .go (owns 3 0 7))] [3, 5, 21, 128, 130] [(129, .agg #[.int .i64 o.kind, .int .i64 o.vcpu, .int .i64 o.al.vcpu, .int .i64 o.al.port, .int .i64 o.al.every, .int .i64 o.time, .bool o.on])] ?_
      refine od_ ?_
      exact wk (hmx33 γ559 trivial) [3, 5, 21, 128, 129, 130] [[_], [_], [_], [_], [_], _, _, _, _] [0, 1, 2, 3, 4, 5, 6, 7, 8] rfl rfl
    refine any_cutX (V := (Nat → Nat)) (fun γ559 => True) 9 #[false, true, true, true, false, false, false, false, false, false, true, false, false] (fun γ559 => [(3, .pointer (some ⟨γ1 1, 0, none⟩)), (5, .pointer (some ⟨γ6 0, 0, none⟩)), (21, .pointer (some ⟨γ559 0, 0, none⟩)), (128, .int .i64 o.vcpu), (129, .agg #[.int .i64 o.kind, .int .i64 o.vcpu, .int .i64 o.al.vcpu, .int .i64 o.al.port, .int .i64 o.al.every, .int .i64 o.time, .bool o.on])]) (fun γ559 => bx (γ559 0) (#[.int .i64 0, .slice none 0 0, .slice none 0 0]) 27 :: bx (γ215 0) (#[.int .i64 nw135, .slice q135 m135 c135, .slice p135 k135 d135]) 27 :: bx (γ6 0) (#[.int .i64 now, .slice q5 m5 c5, .slice p5 k5 d5]) 27 :: bx (γ1 1) (#[.int .i64 o.kind, .int .i64 o.vcpu, .int .i64 o.al.vcpu, .int .i64 o.al.port, .int .i64 o.al.every, .int .i64 o.time, .bool o.on]) 58 :: bx (γ1 0) (#[.int .i64 now, .slice p n cap, .slice pa na ca]) 27 :: (Y135 ++ (Yx135 ++ (Y5 ++ (Yx5 ++ []))))) ?_ (fun hmx23 => ?_)
    ·
     rintro γ559 _
     refine any_fork [0, 4] (by kernel_rfl) (by simp) (each_cons _ rfl ?_ (each_cons _ rfl ?_ (each_nil)))
     ·
      refine qo0 1 [(0, .go (owns 2 0 3))] [3, 5, 21, 128, 129] [(126, .agg #[.int .i64 now, .slice q5 m5 c5, .slice p5 k5 d5])] ?_
      refine od_ ?_
      exact wk (hmx28 γ559 trivial) [3, 5, 21, 126, 128, 129] [[_], [_], [_], [_], [_], _, _, _, _] [0, 1, 2, 3, 4, 5, 6, 7, 8] rfl rfl
     ·
      refine qo0 1 [(4, .go (owns 2 0 3))] [3, 5, 21, 128, 129] [(130, .agg #[.int .i64 now, .slice q5 m5 c5, .slice p5 k5 d5])] ?_
      refine od_ ?_
      exact wk (hmx33 γ559 trivial) [3, 5, 21, 128, 129, 130] [[_], [_], [_], [_], [_], _, _, _, _] [0, 1, 2, 3, 4, 5, 6, 7, 8] rfl rfl
    refine any_cutX (V := Unit) (fun _ => True) 9 #[false, true, true, true, true, false, false, false, false, false, false, false, false] (fun _ => [(3, .pointer (some ⟨γ1 1, 0, none⟩)), (5, .pointer (some ⟨γ6 0, 0, none⟩)), (128, .int .i64 o.vcpu), (129, .agg #[.int .i64 o.kind, .int .i64 o.vcpu, .int .i64 o.al.vcpu, .int .i64 o.al.port, .int .i64 o.al.every, .int .i64 o.time, .bool o.on]), (130, .agg #[.int .i64 now, .slice q5 m5 c5, .slice p5 k5 d5])]) (fun _ => bx (γ215 0) (#[.int .i64 nw135, .slice q135 m135 c135, .slice p135 k135 d135]) 27 :: bx (γ6 0) (#[.int .i64 now, .slice q5 m5 c5, .slice p5 k5 d5]) 27 :: bx (γ1 1) (#[.int .i64 o.kind, .int .i64 o.vcpu, .int .i64 o.al.vcpu, .int .i64 o.al.port, .int .i64 o.al.every, .int .i64 o.time, .bool o.on]) 58 :: bx (γ1 0) (#[.int .i64 now, .slice p n cap, .slice pa na ca]) 27 :: (Y135 ++ (Yx135 ++ (Y5 ++ (Yx5 ++ []))))) ?_ (fun hmx22 => ?_)
    ·
     rintro _ _
     refine any_fork [0, 5, 10] (by kernel_rfl) (by simp) (each_cons _ rfl ?_ (each_cons _ rfl ?_ (each_cons _ rfl ?_ (each_nil))))
     ·
      refine qo0 1 [(0, .go (owns 1 0 3))] [3, 5, 128, 129, 130] [(126, .agg #[.int .i64 now, .slice q5 m5 c5, .slice p5 k5 d5])] ?_
      refine od_ ?_
      exact wk (hmx27 () trivial) [3, 5, 126, 128, 129, 130] [[_], [_], [_], [_], _, _, _, _] [0, 1, 2, 3, 4, 5, 6, 7] rfl rfl
     ·
      refine cD (.int .i64 ((otV now o.on o.time))) Try.call22 (fun w hw => ot_t o now q5 m5 c5 ((shT ts)) p5 k5 d5 ((shR rs)) w hn0 hn1) ?_
      refine od_ ?_
      exact wk (hmx32 () trivial) [3, 5, 128, 131] [[_], [_], [_], [_], _, _, _, _] [0, 1, 2, 3, 4, 5, 6, 7] rfl rfl
     ·
      refine mo0 1 [] [3, 5, 128, 129, 130] (fun γ559 => [(21, .pointer (some ⟨γ559 0, 0, none⟩))]) (fun γ559 L => bx (γ559 0) (#[.int .i64 0, .slice none 0 0, .slice none 0 0]) 27 :: L) (fun γ559 => ?_)
      refine od_ ?_
      exact wk (hmx33 γ559 trivial) [3, 5, 21, 128, 129, 130] [[_], [_], [_], [_], [_], _, _, _, _] [0, 1, 2, 3, 4, 5, 6, 7, 8] rfl rfl
    refine any_cutX (V := (Nat → Nat)) (fun γ559 => True) 9 #[true, true, false, false, true, false, false, false, false, false, true, false, false] (fun γ559 => [(3, .pointer (some ⟨γ1 1, 0, none⟩)), (5, .pointer (some ⟨γ6 0, 0, none⟩)), (21, .pointer (some ⟨γ559 0, 0, none⟩)), (126, .agg #[.int .i64 now, .slice q5 m5 c5, .slice p5 k5 d5]), (127, .pointer (some ⟨γ1 1, 1, none⟩)), (130, .agg #[.int .i64 now, .slice q5 m5 c5, .slice p5 k5 d5])]) (fun γ559 => bx (γ559 0) (#[.int .i64 0, .slice none 0 0, .slice none 0 0]) 27 :: bx (γ215 0) (#[.int .i64 nw135, .slice q135 m135 c135, .slice p135 k135 d135]) 27 :: bx (γ6 0) (#[.int .i64 now, .slice q5 m5 c5, .slice p5 k5 d5]) 27 :: bx (γ1 1) (#[.int .i64 o.kind, .int .i64 o.vcpu, .int .i64 o.al.vcpu, .int .i64 o.al.port, .int .i64 o.al.every, .int .i64 o.time, .bool o.on]) 58 :: bx (γ1 0) (#[.int .i64 now, .slice p n cap, .slice pa na ca]) 27 :: (Y135 ++ (Yx135 ++ (Y5 ++ (Yx5 ++ []))))) ?_ (fun hmx21 => ?_)
    ·
     rintro γ559 _
     refine any_fork [2, 3] (by kernel_rfl) (by simp) (each_cons _ rfl ?_ (each_cons _ rfl ?_ (each_nil)))
     ·
      refine qo0 1 [(2, .go (owns 3 1 1))] [3, 5, 21, 126, 130] [(128, .int .i64 o.vcpu)] ?_
      refine od_ ?_
      exact wk (hmx29 γ559 trivial) [3, 5, 21, 126, 128, 130] [[_], [_], [_], [_], [_], _, _, _, _] [0, 1, 2, 3, 4, 5, 6, 7, 8] rfl rfl
     ·
      refine qo0 1 [(3, .go (owns 3 0 7))] [3, 5, 21, 126, 127, 130] [(129, .agg #[.int .i64 o.kind, .int .i64 o.vcpu, .int .i64 o.al.vcpu, .int .i64 o.al.port, .int .i64 o.al.every, .int .i64 o.time, .bool o.on])] ?_
      refine od_ ?_
      exact wk (hmx31 γ559 trivial) [3, 5, 21, 126, 127, 129, 130] [[_], [_], [_], [_], [_], _, _, _, _] [0, 1, 2, 3, 4, 5, 6, 7, 8] rfl rfl
    refine any_cutX (V := (Nat → Nat)) (fun γ559 => True) 9 #[true, true, false, true, false, false, false, false, false, false, true, false, false] (fun γ559 => [(3, .pointer (some ⟨γ1 1, 0, none⟩)), (5, .pointer (some ⟨γ6 0, 0, none⟩)), (21, .pointer (some ⟨γ559 0, 0, none⟩)), (126, .agg #[.int .i64 now, .slice q5 m5 c5, .slice p5 k5 d5]), (127, .pointer (some ⟨γ1 1, 1, none⟩)), (129, .agg #[.int .i64 o.kind, .int .i64 o.vcpu, .int .i64 o.al.vcpu, .int .i64 o.al.port, .int .i64 o.al.every, .int .i64 o.time, .bool o.on])]) (fun γ559 => bx (γ559 0) (#[.int .i64 0, .slice none 0 0, .slice none 0 0]) 27 :: bx (γ215 0) (#[.int .i64 nw135, .slice q135 m135 c135, .slice p135 k135 d135]) 27 :: bx (γ6 0) (#[.int .i64 now, .slice q5 m5 c5, .slice p5 k5 d5]) 27 :: bx (γ1 1) (#[.int .i64 o.kind, .int .i64 o.vcpu, .int .i64 o.al.vcpu, .int .i64 o.al.port, .int .i64 o.al.every, .int .i64 o.time, .bool o.on]) 58 :: bx (γ1 0) (#[.int .i64 now, .slice p n cap, .slice pa na ca]) 27 :: (Y135 ++ (Yx135 ++ (Y5 ++ (Yx5 ++ []))))) ?_ (fun hmx20 => ?_)
    ·
     rintro γ559 _
     refine any_fork [2, 4] (by kernel_rfl) (by simp) (each_cons _ rfl ?_ (each_cons _ rfl ?_ (each_nil)))
     ·
      refine qo0 1 [(2, .go (owns 3 1 1))] [3, 5, 21, 126, 129] [(128, .int .i64 o.vcpu)] ?_
      refine od_ ?_
      exact wk (hmx28 γ559 trivial) [3, 5, 21, 126, 128, 129] [[_], [_], [_], [_], [_], _, _, _, _] [0, 1, 2, 3, 4, 5, 6, 7, 8] rfl rfl
     ·
      refine qo0 1 [(4, .go (owns 2 0 3))] [3, 5, 21, 126, 127, 129] [(130, .agg #[.int .i64 now, .slice q5 m5 c5, .slice p5 k5 d5])] ?_
      refine od_ ?_
      exact wk (hmx31 γ559 trivial) [3, 5, 21, 126, 127, 129, 130] [[_], [_], [_], [_], [_], _, _, _, _] [0, 1, 2, 3, 4, 5, 6, 7, 8] rfl rfl
    refine any_cutX (V := Unit) (fun _ => True) 9 #[true, true, false, true, true, false, false, false, false, false, false, false, false] (fun _ => [(3, .pointer (some ⟨γ1 1, 0, none⟩)), (5, .pointer (some ⟨γ6 0, 0, none⟩)), (126, .agg #[.int .i64 now, .slice q5 m5 c5, .slice p5 k5 d5]), (127, .pointer (some ⟨γ1 1, 1, none⟩)), (129, .agg #[.int .i64 o.kind, .int .i64 o.vcpu, .int .i64 o.al.vcpu, .int .i64 o.al.port, .int .i64 o.al.every, .int .i64 o.time, .bool o.on]), (130, .agg #[.int .i64 now, .slice q5 m5 c5, .slice p5 k5 d5])]) (fun _ => bx (γ215 0) (#[.int .i64 nw135, .slice q135 m135 c135, .slice p135 k135 d135]) 27 :: bx (γ6 0) (#[.int .i64 now, .slice q5 m5 c5, .slice p5 k5 d5]) 27 :: bx (γ1 1) (#[.int .i64 o.kind, .int .i64 o.vcpu, .int .i64 o.al.vcpu, .int .i64 o.al.port, .int .i64 o.al.every, .int .i64 o.time, .bool o.on]) 58 :: bx (γ1 0) (#[.int .i64 now, .slice p n cap, .slice pa na ca]) 27 :: (Y135 ++ (Yx135 ++ (Y5 ++ (Yx5 ++ []))))) ?_ (fun hmx19 => ?_)
    ·
     rintro _ _
     refine any_fork [2, 5, 10] (by kernel_rfl) (by simp) (each_cons _ rfl ?_ (each_cons _ rfl ?_ (each_cons _ rfl ?_ (each_nil))))
     ·
      refine qo0 1 [(2, .go (owns 2 1 1))] [3, 5, 126, 129, 130] [(128, .int .i64 o.vcpu)] ?_
      refine od_ ?_
      exact wk (hmx27 () trivial) [3, 5, 126, 128, 129, 130] [[_], [_], [_], [_], _, _, _, _] [0, 1, 2, 3, 4, 5, 6, 7] rfl rfl
     ·
      refine cD (.int .i64 ((otV now o.on o.time))) Try.call22 (fun w hw => ot_t o now q5 m5 c5 ((shT ts)) p5 k5 d5 ((shR rs)) w hn0 hn1) ?_
      refine od_ ?_
      exact wk (hmx30 () trivial) [3, 5, 126, 127, 131] [[_], [_], [_], [_], _, _, _, _] [0, 1, 2, 3, 4, 5, 6, 7] rfl rfl
     ·
      refine mo0 1 [] [3, 5, 126, 127, 129, 130] (fun γ559 => [(21, .pointer (some ⟨γ559 0, 0, none⟩))]) (fun γ559 L => bx (γ559 0) (#[.int .i64 0, .slice none 0 0, .slice none 0 0]) 27 :: L) (fun γ559 => ?_)
      refine od_ ?_
      exact wk (hmx31 γ559 trivial) [3, 5, 21, 126, 127, 129, 130] [[_], [_], [_], [_], [_], _, _, _, _] [0, 1, 2, 3, 4, 5, 6, 7, 8] rfl rfl
    refine any_cutX (V := (Nat → Nat)) (fun γ559 => True) 9 #[true, true, true, false, false, false, false, false, false, false, true, false, false] (fun γ559 => [(3, .pointer (some ⟨γ1 1, 0, none⟩)), (5, .pointer (some ⟨γ6 0, 0, none⟩)), (21, .pointer (some ⟨γ559 0, 0, none⟩)), (126, .agg #[.int .i64 now, .slice q5 m5 c5, .slice p5 k5 d5]), (128, .int .i64 o.vcpu)]) (fun γ559 => bx (γ559 0) (#[.int .i64 0, .slice none 0 0, .slice none 0 0]) 27 :: bx (γ215 0) (#[.int .i64 nw135, .slice q135 m135 c135, .slice p135 k135 d135]) 27 :: bx (γ6 0) (#[.int .i64 now, .slice q5 m5 c5, .slice p5 k5 d5]) 27 :: bx (γ1 1) (#[.int .i64 o.kind, .int .i64 o.vcpu, .int .i64 o.al.vcpu, .int .i64 o.al.port, .int .i64 o.al.every, .int .i64 o.time, .bool o.on]) 58 :: bx (γ1 0) (#[.int .i64 now, .slice p n cap, .slice pa na ca]) 27 :: (Y135 ++ (Yx135 ++ (Y5 ++ (Yx5 ++ []))))) ?_ (fun hmx18 => ?_)
    ·
     rintro γ559 _
     refine any_fork [3, 4] (by kernel_rfl) (by simp) (each_cons _ rfl ?_ (each_cons _ rfl ?_ (each_nil)))
     ·
      refine qo0 1 [(3, .go (owns 3 0 7))] [3, 5, 21, 126, 128] [(129, .agg #[.int .i64 o.kind, .int .i64 o.vcpu, .int .i64 o.al.vcpu, .int .i64 o.al.port, .int .i64 o.al.every, .int .i64 o.time, .bool o.on])] ?_
      refine od_ ?_
      exact wk (hmx28 γ559 trivial) [3, 5, 21, 126, 128, 129] [[_], [_], [_], [_], [_], _, _, _, _] [0, 1, 2, 3, 4, 5, 6, 7, 8] rfl rfl
     ·
      refine qo0 1 [(4, .go (owns 2 0 3))] [3, 5, 21, 126, 128] [(130, .agg #[.int .i64 now, .slice q5 m5 c5, .slice p5 k5 d5])] ?_
      refine od_ ?_
      exact wk (hmx29 γ559 trivial) [3, 5, 21, 126, 128, 130] [[_], [_], [_], [_], [_], _, _, _, _] [0, 1, 2, 3, 4, 5, 6, 7, 8] rfl rfl
    refine any_cutX (V := Unit) (fun _ => True) 9 #[true, true, true, false, true, false, false, false, false, false, false, false, false] (fun _ => [(3, .pointer (some ⟨γ1 1, 0, none⟩)), (5, .pointer (some ⟨γ6 0, 0, none⟩)), (126, .agg #[.int .i64 now, .slice q5 m5 c5, .slice p5 k5 d5]), (128, .int .i64 o.vcpu), (130, .agg #[.int .i64 now, .slice q5 m5 c5, .slice p5 k5 d5])]) (fun _ => bx (γ215 0) (#[.int .i64 nw135, .slice q135 m135 c135, .slice p135 k135 d135]) 27 :: bx (γ6 0) (#[.int .i64 now, .slice q5 m5 c5, .slice p5 k5 d5]) 27 :: bx (γ1 1) (#[.int .i64 o.kind, .int .i64 o.vcpu, .int .i64 o.al.vcpu, .int .i64 o.al.port, .int .i64 o.al.every, .int .i64 o.time, .bool o.on]) 58 :: bx (γ1 0) (#[.int .i64 now, .slice p n cap, .slice pa na ca]) 27 :: (Y135 ++ (Yx135 ++ (Y5 ++ (Yx5 ++ []))))) ?_ (fun hmx17 => ?_)
    ·
     rintro _ _
     refine any_fork [3, 10] (by kernel_rfl) (by simp) (each_cons _ rfl ?_ (each_cons _ rfl ?_ (each_nil)))
     ·
      refine qo0 1 [(3, .go (owns 2 0 7))] [3, 5, 126, 128, 130] [(129, .agg #[.int .i64 o.kind, .int .i64 o.vcpu, .int .i64 o.al.vcpu, .int .i64 o.al.port, .int .i64 o.al.every, .int .i64 o.time, .bool o.on])] ?_
      refine od_ ?_
      exact wk (hmx27 () trivial) [3, 5, 126, 128, 129, 130] [[_], [_], [_], [_], _, _, _, _] [0, 1, 2, 3, 4, 5, 6, 7] rfl rfl
     ·
      refine mo0 1 [] [3, 5, 126, 128, 130] (fun γ559 => [(21, .pointer (some ⟨γ559 0, 0, none⟩))]) (fun γ559 L => bx (γ559 0) (#[.int .i64 0, .slice none 0 0, .slice none 0 0]) 27 :: L) (fun γ559 => ?_)
      refine od_ ?_
      exact wk (hmx29 γ559 trivial) [3, 5, 21, 126, 128, 130] [[_], [_], [_], [_], [_], _, _, _, _] [0, 1, 2, 3, 4, 5, 6, 7, 8] rfl rfl
    refine any_cutX (V := Unit) (fun _ => True) 9 #[true, true, true, true, false, false, false, false, false, false, false, false, false] (fun _ => [(3, .pointer (some ⟨γ1 1, 0, none⟩)), (5, .pointer (some ⟨γ6 0, 0, none⟩)), (126, .agg #[.int .i64 now, .slice q5 m5 c5, .slice p5 k5 d5]), (128, .int .i64 o.vcpu), (129, .agg #[.int .i64 o.kind, .int .i64 o.vcpu, .int .i64 o.al.vcpu, .int .i64 o.al.port, .int .i64 o.al.every, .int .i64 o.time, .bool o.on])]) (fun _ => bx (γ215 0) (#[.int .i64 nw135, .slice q135 m135 c135, .slice p135 k135 d135]) 27 :: bx (γ6 0) (#[.int .i64 now, .slice q5 m5 c5, .slice p5 k5 d5]) 27 :: bx (γ1 1) (#[.int .i64 o.kind, .int .i64 o.vcpu, .int .i64 o.al.vcpu, .int .i64 o.al.port, .int .i64 o.al.every, .int .i64 o.time, .bool o.on]) 58 :: bx (γ1 0) (#[.int .i64 now, .slice p n cap, .slice pa na ca]) 27 :: (Y135 ++ (Yx135 ++ (Y5 ++ (Yx5 ++ []))))) ?_ (fun hmx16 => ?_)
    ·
     rintro _ _
     refine any_fork [4, 10] (by kernel_rfl) (by simp) (each_cons _ rfl ?_ (each_cons _ rfl ?_ (each_nil)))
     ·
      refine qo0 1 [(4, .go (owns 1 0 3))] [3, 5, 126, 128, 129] [(130, .agg #[.int .i64 now, .slice q5 m5 c5, .slice p5 k5 d5])] ?_
      refine od_ ?_
      exact wk (hmx27 () trivial) [3, 5, 126, 128, 129, 130] [[_], [_], [_], [_], _, _, _, _] [0, 1, 2, 3, 4, 5, 6, 7] rfl rfl
     ·
      refine mo0 1 [] [3, 5, 126, 128, 129] (fun γ559 => [(21, .pointer (some ⟨γ559 0, 0, none⟩))]) (fun γ559 L => bx (γ559 0) (#[.int .i64 0, .slice none 0 0, .slice none 0 0]) 27 :: L) (fun γ559 => ?_)
      refine od_ ?_
      exact wk (hmx28 γ559 trivial) [3, 5, 21, 126, 128, 129] [[_], [_], [_], [_], [_], _, _, _, _] [0, 1, 2, 3, 4, 5, 6, 7, 8] rfl rfl
    refine any_cutX (V := (Nat → Nat)) (fun γ559 => True) 10 #[false, true, false, false, true, false, false, false, false, false, true, false, false] (fun γ559 => [(3, .pointer (some ⟨γ1 1, 0, none⟩)), (5, .pointer (some ⟨γ6 0, 0, none⟩)), (21, .pointer (some ⟨γ559 0, 0, none⟩)), (127, .pointer (some ⟨γ1 1, 1, none⟩)), (130, .agg #[.int .i64 now, .slice q5 m5 c5, .slice p5 k5 d5])]) (fun γ559 => bx (γ559 0) (#[.int .i64 0, .slice none 0 0, .slice none 0 0]) 27 :: bx (γ215 0) (#[.int .i64 nw135, .slice q135 m135 c135, .slice p135 k135 d135]) 27 :: bx (γ6 0) (#[.int .i64 now, .slice q5 m5 c5, .slice p5 k5 d5]) 27 :: bx (γ1 1) (#[.int .i64 o.kind, .int .i64 o.vcpu, .int .i64 o.al.vcpu, .int .i64 o.al.port, .int .i64 o.al.every, .int .i64 o.time, .bool o.on]) 58 :: bx (γ1 0) (#[.int .i64 now, .slice p n cap, .slice pa na ca]) 27 :: (Y135 ++ (Yx135 ++ (Y5 ++ (Yx5 ++ []))))) ?_ (fun hmx15 => ?_)
    ·
     rintro γ559 _
     refine any_fork [0, 2, 3] (by kernel_rfl) (by simp) (each_cons _ rfl ?_ (each_cons _ rfl ?_ (each_cons _ rfl ?_ (each_nil))))
     ·
      refine qo0 1 [(0, .go (owns 2 0 3))] [3, 5, 21, 127, 130] [(126, .agg #[.int .i64 now, .slice q5 m5 c5, .slice p5 k5 d5])] ?_
      refine od_ ?_
      exact wk (hmx21 γ559 trivial) [3, 5, 21, 126, 127, 130] [[_], [_], [_], [_], [_], _, _, _, _] [0, 1, 2, 3, 4, 5, 6, 7, 8] rfl rfl
     ·
      refine qo0 1 [(2, .go (owns 3 1 1))] [3, 5, 21, 130] [(128, .int .i64 o.vcpu)] ?_
      refine od_ ?_
      exact wk (hmx24 γ559 trivial) [3, 5, 21, 128, 130] [[_], [_], [_], [_], [_], _, _, _, _] [0, 1, 2, 3, 4, 5, 6, 7, 8] rfl rfl
     ·
      refine qo0 1 [(3, .go (owns 3 0 7))] [3, 5, 21, 127, 130] [(129, .agg #[.int .i64 o.kind, .int .i64 o.vcpu, .int .i64 o.al.vcpu, .int .i64 o.al.port, .int .i64 o.al.every, .int .i64 o.time, .bool o.on])] ?_
      refine od_ ?_
      exact wk (hmx26 γ559 trivial) [3, 5, 21, 127, 129, 130] [[_], [_], [_], [_], [_], _, _, _, _] [0, 1, 2, 3, 4, 5, 6, 7, 8] rfl rfl
    refine any_cutX (V := (Nat → Nat)) (fun γ559 => True) 10 #[false, true, false, true, false, false, false, false, false, false, true, false, false] (fun γ559 => [(3, .pointer (some ⟨γ1 1, 0, none⟩)), (5, .pointer (some ⟨γ6 0, 0, none⟩)), (21, .pointer (some ⟨γ559 0, 0, none⟩)), (127, .pointer (some ⟨γ1 1, 1, none⟩)), (129, .agg #[.int .i64 o.kind, .int .i64 o.vcpu, .int .i64 o.al.vcpu, .int .i64 o.al.port, .int .i64 o.al.every, .int .i64 o.time, .bool o.on])]) (fun γ559 => bx (γ559 0) (#[.int .i64 0, .slice none 0 0, .slice none 0 0]) 27 :: bx (γ215 0) (#[.int .i64 nw135, .slice q135 m135 c135, .slice p135 k135 d135]) 27 :: bx (γ6 0) (#[.int .i64 now, .slice q5 m5 c5, .slice p5 k5 d5]) 27 :: bx (γ1 1) (#[.int .i64 o.kind, .int .i64 o.vcpu, .int .i64 o.al.vcpu, .int .i64 o.al.port, .int .i64 o.al.every, .int .i64 o.time, .bool o.on]) 58 :: bx (γ1 0) (#[.int .i64 now, .slice p n cap, .slice pa na ca]) 27 :: (Y135 ++ (Yx135 ++ (Y5 ++ (Yx5 ++ []))))) ?_ (fun hmx14 => ?_)
    ·
     rintro γ559 _
     refine any_fork [0, 2, 4] (by kernel_rfl) (by simp) (each_cons _ rfl ?_ (each_cons _ rfl ?_ (each_cons _ rfl ?_ (each_nil))))
     ·
      refine qo0 1 [(0, .go (owns 2 0 3))] [3, 5, 21, 127, 129] [(126, .agg #[.int .i64 now, .slice q5 m5 c5, .slice p5 k5 d5])] ?_
      refine od_ ?_
      exact wk (hmx20 γ559 trivial) [3, 5, 21, 126, 127, 129] [[_], [_], [_], [_], [_], _, _, _, _] [0, 1, 2, 3, 4, 5, 6, 7, 8] rfl rfl
     ·
      refine qo0 1 [(2, .go (owns 3 1 1))] [3, 5, 21, 129] [(128, .int .i64 o.vcpu)] ?_
      refine od_ ?_
      exact wk (hmx23 γ559 trivial) [3, 5, 21, 128, 129] [[_], [_], [_], [_], [_], _, _, _, _] [0, 1, 2, 3, 4, 5, 6, 7, 8] rfl rfl
     ·
      refine qo0 1 [(4, .go (owns 2 0 3))] [3, 5, 21, 127, 129] [(130, .agg #[.int .i64 now, .slice q5 m5 c5, .slice p5 k5 d5])] ?_
      refine od_ ?_
      exact wk (hmx26 γ559 trivial) [3, 5, 21, 127, 129, 130] [[_], [_], [_], [_], [_], _, _, _, _] [0, 1, 2, 3, 4, 5, 6, 7, 8] rfl rfl
    refine any_cutX (V := Unit) (fun _ => True) 10 #[false, true, false, true, true, false, false, false, false, false, false, false, false] (fun _ => [(3, .pointer (some ⟨γ1 1, 0, none⟩)), (5, .pointer (some ⟨γ6 0, 0, none⟩)), (127, .pointer (some ⟨γ1 1, 1, none⟩)), (129, .agg #[.int .i64 o.kind, .int .i64 o.vcpu, .int .i64 o.al.vcpu, .int .i64 o.al.port, .int .i64 o.al.every, .int .i64 o.time, .bool o.on]), (130, .agg #[.int .i64 now, .slice q5 m5 c5, .slice p5 k5 d5])]) (fun _ => bx (γ215 0) (#[.int .i64 nw135, .slice q135 m135 c135, .slice p135 k135 d135]) 27 :: bx (γ6 0) (#[.int .i64 now, .slice q5 m5 c5, .slice p5 k5 d5]) 27 :: bx (γ1 1) (#[.int .i64 o.kind, .int .i64 o.vcpu, .int .i64 o.al.vcpu, .int .i64 o.al.port, .int .i64 o.al.every, .int .i64 o.time, .bool o.on]) 58 :: bx (γ1 0) (#[.int .i64 now, .slice p n cap, .slice pa na ca]) 27 :: (Y135 ++ (Yx135 ++ (Y5 ++ (Yx5 ++ []))))) ?_ (fun hmx13 => ?_)
    ·
     rintro _ _
     refine any_fork [0, 2, 5, 10] (by kernel_rfl) (by simp) (each_cons _ rfl ?_ (each_cons _ rfl ?_ (each_cons _ rfl ?_ (each_cons _ rfl ?_ (each_nil)))))
     ·
      refine qo0 1 [(0, .go (owns 1 0 3))] [3, 5, 127, 129, 130] [(126, .agg #[.int .i64 now, .slice q5 m5 c5, .slice p5 k5 d5])] ?_
      refine od_ ?_
      exact wk (hmx19 () trivial) [3, 5, 126, 127, 129, 130] [[_], [_], [_], [_], _, _, _, _] [0, 1, 2, 3, 4, 5, 6, 7] rfl rfl
     ·
      refine qo0 1 [(2, .go (owns 2 1 1))] [3, 5, 129, 130] [(128, .int .i64 o.vcpu)] ?_
      refine od_ ?_
      exact wk (hmx22 () trivial) [3, 5, 128, 129, 130] [[_], [_], [_], [_], _, _, _, _] [0, 1, 2, 3, 4, 5, 6, 7] rfl rfl
     ·
      refine cD (.int .i64 ((otV now o.on o.time))) Try.call22 (fun w hw => ot_t o now q5 m5 c5 ((shT ts)) p5 k5 d5 ((shR rs)) w hn0 hn1) ?_
      refine od_ ?_
      exact wk (hmx25 () trivial) [3, 5, 127, 131] [[_], [_], [_], [_], _, _, _, _] [0, 1, 2, 3, 4, 5, 6, 7] rfl rfl
     ·
      refine mo0 1 [] [3, 5, 127, 129, 130] (fun γ559 => [(21, .pointer (some ⟨γ559 0, 0, none⟩))]) (fun γ559 L => bx (γ559 0) (#[.int .i64 0, .slice none 0 0, .slice none 0 0]) 27 :: L) (fun γ559 => ?_)
      refine od_ ?_
      exact wk (hmx26 γ559 trivial) [3, 5, 21, 127, 129, 130] [[_], [_], [_], [_], [_], _, _, _, _] [0, 1, 2, 3, 4, 5, 6, 7, 8] rfl rfl
    refine any_cutX (V := (Nat → Nat)) (fun γ559 => True) 10 #[false, true, true, false, false, false, false, false, false, false, true, false, false] (fun γ559 => [(3, .pointer (some ⟨γ1 1, 0, none⟩)), (5, .pointer (some ⟨γ6 0, 0, none⟩)), (21, .pointer (some ⟨γ559 0, 0, none⟩)), (128, .int .i64 o.vcpu)]) (fun γ559 => bx (γ559 0) (#[.int .i64 0, .slice none 0 0, .slice none 0 0]) 27 :: bx (γ215 0) (#[.int .i64 nw135, .slice q135 m135 c135, .slice p135 k135 d135]) 27 :: bx (γ6 0) (#[.int .i64 now, .slice q5 m5 c5, .slice p5 k5 d5]) 27 :: bx (γ1 1) (#[.int .i64 o.kind, .int .i64 o.vcpu, .int .i64 o.al.vcpu, .int .i64 o.al.port, .int .i64 o.al.every, .int .i64 o.time, .bool o.on]) 58 :: bx (γ1 0) (#[.int .i64 now, .slice p n cap, .slice pa na ca]) 27 :: (Y135 ++ (Yx135 ++ (Y5 ++ (Yx5 ++ []))))) ?_ (fun hmx12 => ?_)
    ·
     rintro γ559 _
     refine any_fork [0, 3, 4] (by kernel_rfl) (by simp) (each_cons _ rfl ?_ (each_cons _ rfl ?_ (each_cons _ rfl ?_ (each_nil))))
     ·
      refine qo0 1 [(0, .go (owns 2 0 3))] [3, 5, 21, 128] [(126, .agg #[.int .i64 now, .slice q5 m5 c5, .slice p5 k5 d5])] ?_
      refine od_ ?_
      exact wk (hmx18 γ559 trivial) [3, 5, 21, 126, 128] [[_], [_], [_], [_], [_], _, _, _, _] [0, 1, 2, 3, 4, 5, 6, 7, 8] rfl rfl
     ·
      refine qo0 1 [(3, .go (owns 3 0 7))] [3, 5, 21, 128] [(129, .agg #[.int .i64 o.kind, .int .i64 o.vcpu, .int .i64 o.al.vcpu, .int .i64 o.al.port, .int .i64 o.al.every, .int .i64 o.time, .bool o.on])] ?_
      refine od_ ?_
      exact wk (hmx23 γ559 trivial) [3, 5, 21, 128, 129] [[_], [_], [_], [_], [_], _, _, _, _] [0, 1, 2, 3, 4, 5, 6, 7, 8] rfl rfl
     ·
      refine qo0 1 [(4, .go (owns 2 0 3))] [3, 5, 21, 128] [(130, .agg #[.int .i64 now, .slice q5 m5 c5, .slice p5 k5 d5])] ?_
      refine od_ ?_
      exact wk (hmx24 γ559 trivial) [3, 5, 21, 128, 130] [[_], [_], [_], [_], [_], _, _, _, _] [0, 1, 2, 3, 4, 5, 6, 7, 8] rfl rfl
    refine any_cutX (V := Unit) (fun _ => True) 10 #[false, true, true, false, true, false, false, false, false, false, false, false, false] (fun _ => [(3, .pointer (some ⟨γ1 1, 0, none⟩)), (5, .pointer (some ⟨γ6 0, 0, none⟩)), (128, .int .i64 o.vcpu), (130, .agg #[.int .i64 now, .slice q5 m5 c5, .slice p5 k5 d5])]) (fun _ => bx (γ215 0) (#[.int .i64 nw135, .slice q135 m135 c135, .slice p135 k135 d135]) 27 :: bx (γ6 0) (#[.int .i64 now, .slice q5 m5 c5, .slice p5 k5 d5]) 27 :: bx (γ1 1) (#[.int .i64 o.kind, .int .i64 o.vcpu, .int .i64 o.al.vcpu, .int .i64 o.al.port, .int .i64 o.al.every, .int .i64 o.time, .bool o.on]) 58 :: bx (γ1 0) (#[.int .i64 now, .slice p n cap, .slice pa na ca]) 27 :: (Y135 ++ (Yx135 ++ (Y5 ++ (Yx5 ++ []))))) ?_ (fun hmx11 => ?_)
    ·
     rintro _ _
     refine any_fork [0, 3, 10] (by kernel_rfl) (by simp) (each_cons _ rfl ?_ (each_cons _ rfl ?_ (each_cons _ rfl ?_ (each_nil))))
     ·
      refine qo0 1 [(0, .go (owns 1 0 3))] [3, 5, 128, 130] [(126, .agg #[.int .i64 now, .slice q5 m5 c5, .slice p5 k5 d5])] ?_
      refine od_ ?_
      exact wk (hmx17 () trivial) [3, 5, 126, 128, 130] [[_], [_], [_], [_], _, _, _, _] [0, 1, 2, 3, 4, 5, 6, 7] rfl rfl
     ·
      refine qo0 1 [(3, .go (owns 2 0 7))] [3, 5, 128, 130] [(129, .agg #[.int .i64 o.kind, .int .i64 o.vcpu, .int .i64 o.al.vcpu, .int .i64 o.al.port, .int .i64 o.al.every, .int .i64 o.time, .bool o.on])] ?_
      refine od_ ?_
      exact wk (hmx22 () trivial) [3, 5, 128, 129, 130] [[_], [_], [_], [_], _, _, _, _] [0, 1, 2, 3, 4, 5, 6, 7] rfl rfl
     ·
      refine mo0 1 [] [3, 5, 128, 130] (fun γ559 => [(21, .pointer (some ⟨γ559 0, 0, none⟩))]) (fun γ559 L => bx (γ559 0) (#[.int .i64 0, .slice none 0 0, .slice none 0 0]) 27 :: L) (fun γ559 => ?_)
      refine od_ ?_
      exact wk (hmx24 γ559 trivial) [3, 5, 21, 128, 130] [[_], [_], [_], [_], [_], _, _, _, _] [0, 1, 2, 3, 4, 5, 6, 7, 8] rfl rfl
    refine any_cutX (V := Unit) (fun _ => True) 10 #[false, true, true, true, false, false, false, false, false, false, false, false, false] (fun _ => [(3, .pointer (some ⟨γ1 1, 0, none⟩)), (5, .pointer (some ⟨γ6 0, 0, none⟩)), (128, .int .i64 o.vcpu), (129, .agg #[.int .i64 o.kind, .int .i64 o.vcpu, .int .i64 o.al.vcpu, .int .i64 o.al.port, .int .i64 o.al.every, .int .i64 o.time, .bool o.on])]) (fun _ => bx (γ215 0) (#[.int .i64 nw135, .slice q135 m135 c135, .slice p135 k135 d135]) 27 :: bx (γ6 0) (#[.int .i64 now, .slice q5 m5 c5, .slice p5 k5 d5]) 27 :: bx (γ1 1) (#[.int .i64 o.kind, .int .i64 o.vcpu, .int .i64 o.al.vcpu, .int .i64 o.al.port, .int .i64 o.al.every, .int .i64 o.time, .bool o.on]) 58 :: bx (γ1 0) (#[.int .i64 now, .slice p n cap, .slice pa na ca]) 27 :: (Y135 ++ (Yx135 ++ (Y5 ++ (Yx5 ++ []))))) ?_ (fun hmx10 => ?_)
    ·
     rintro _ _
     refine any_fork [0, 4, 10] (by kernel_rfl) (by simp) (each_cons _ rfl ?_ (each_cons _ rfl ?_ (each_cons _ rfl ?_ (each_nil))))
     ·
      refine qo0 1 [(0, .go (owns 1 0 3))] [3, 5, 128, 129] [(126, .agg #[.int .i64 now, .slice q5 m5 c5, .slice p5 k5 d5])] ?_
      refine od_ ?_
      exact wk (hmx16 () trivial) [3, 5, 126, 128, 129] [[_], [_], [_], [_], _, _, _, _] [0, 1, 2, 3, 4, 5, 6, 7] rfl rfl
     ·
      refine qo0 1 [(4, .go (owns 1 0 3))] [3, 5, 128, 129] [(130, .agg #[.int .i64 now, .slice q5 m5 c5, .slice p5 k5 d5])] ?_
      refine od_ ?_
      exact wk (hmx22 () trivial) [3, 5, 128, 129, 130] [[_], [_], [_], [_], _, _, _, _] [0, 1, 2, 3, 4, 5, 6, 7] rfl rfl
     ·
      refine mo0 1 [] [3, 5, 128, 129] (fun γ559 => [(21, .pointer (some ⟨γ559 0, 0, none⟩))]) (fun γ559 L => bx (γ559 0) (#[.int .i64 0, .slice none 0 0, .slice none 0 0]) 27 :: L) (fun γ559 => ?_)
      refine od_ ?_
      exact wk (hmx23 γ559 trivial) [3, 5, 21, 128, 129] [[_], [_], [_], [_], [_], _, _, _, _] [0, 1, 2, 3, 4, 5, 6, 7, 8] rfl rfl
    refine any_cutX (V := (Nat → Nat)) (fun γ559 => True) 10 #[true, true, false, false, false, false, false, false, false, false, true, false, false] (fun γ559 => [(3, .pointer (some ⟨γ1 1, 0, none⟩)), (5, .pointer (some ⟨γ6 0, 0, none⟩)), (21, .pointer (some ⟨γ559 0, 0, none⟩)), (126, .agg #[.int .i64 now, .slice q5 m5 c5, .slice p5 k5 d5]), (127, .pointer (some ⟨γ1 1, 1, none⟩))]) (fun γ559 => bx (γ559 0) (#[.int .i64 0, .slice none 0 0, .slice none 0 0]) 27 :: bx (γ215 0) (#[.int .i64 nw135, .slice q135 m135 c135, .slice p135 k135 d135]) 27 :: bx (γ6 0) (#[.int .i64 now, .slice q5 m5 c5, .slice p5 k5 d5]) 27 :: bx (γ1 1) (#[.int .i64 o.kind, .int .i64 o.vcpu, .int .i64 o.al.vcpu, .int .i64 o.al.port, .int .i64 o.al.every, .int .i64 o.time, .bool o.on]) 58 :: bx (γ1 0) (#[.int .i64 now, .slice p n cap, .slice pa na ca]) 27 :: (Y135 ++ (Yx135 ++ (Y5 ++ (Yx5 ++ []))))) ?_ (fun hmx9 => ?_)
    ·
     rintro γ559 _
     refine any_fork [2, 3, 4] (by kernel_rfl) (by simp) (each_cons _ rfl ?_ (each_cons _ rfl ?_ (each_cons _ rfl ?_ (each_nil))))
     ·
      refine qo0 1 [(2, .go (owns 3 1 1))] [3, 5, 21, 126] [(128, .int .i64 o.vcpu)] ?_
      refine od_ ?_
      exact wk (hmx18 γ559 trivial) [3, 5, 21, 126, 128] [[_], [_], [_], [_], [_], _, _, _, _] [0, 1, 2, 3, 4, 5, 6, 7, 8] rfl rfl
     ·
      refine qo0 1 [(3, .go (owns 3 0 7))] [3, 5, 21, 126, 127] [(129, .agg #[.int .i64 o.kind, .int .i64 o.vcpu, .int .i64 o.al.vcpu, .int .i64 o.al.port, .int .i64 o.al.every, .int .i64 o.time, .bool o.on])] ?_
      refine od_ ?_
      exact wk (hmx20 γ559 trivial) [3, 5, 21, 126, 127, 129] [[_], [_], [_], [_], [_], _, _, _, _] [0, 1, 2, 3, 4, 5, 6, 7, 8] rfl rfl
     ·
      refine qo0 1 [(4, .go (owns 2 0 3))] [3, 5, 21, 126, 127] [(130, .agg #[.int .i64 now, .slice q5 m5 c5, .slice p5 k5 d5])] ?_
      refine od_ ?_
      exact wk (hmx21 γ559 trivial) [3, 5, 21, 126, 127, 130] [[_], [_], [_], [_], [_], _, _, _, _] [0, 1, 2, 3, 4, 5, 6, 7, 8] rfl rfl
    refine any_cutX (V := Unit) (fun _ => True) 10 #[true, true, false, false, true, false, false, false, false, false, false, false, false] (fun _ => [(3, .pointer (some ⟨γ1 1, 0, none⟩)), (5, .pointer (some ⟨γ6 0, 0, none⟩)), (126, .agg #[.int .i64 now, .slice q5 m5 c5, .slice p5 k5 d5]), (127, .pointer (some ⟨γ1 1, 1, none⟩)), (130, .agg #[.int .i64 now, .slice q5 m5 c5, .slice p5 k5 d5])]) (fun _ => bx (γ215 0) (#[.int .i64 nw135, .slice q135 m135 c135, .slice p135 k135 d135]) 27 :: bx (γ6 0) (#[.int .i64 now, .slice q5 m5 c5, .slice p5 k5 d5]) 27 :: bx (γ1 1) (#[.int .i64 o.kind, .int .i64 o.vcpu, .int .i64 o.al.vcpu, .int .i64 o.al.port, .int .i64 o.al.every, .int .i64 o.time, .bool o.on]) 58 :: bx (γ1 0) (#[.int .i64 now, .slice p n cap, .slice pa na ca]) 27 :: (Y135 ++ (Yx135 ++ (Y5 ++ (Yx5 ++ []))))) ?_ (fun hmx8 => ?_)
    ·
     rintro _ _
     refine any_fork [2, 3, 10] (by kernel_rfl) (by simp) (each_cons _ rfl ?_ (each_cons _ rfl ?_ (each_cons _ rfl ?_ (each_nil))))
     ·
      refine qo0 1 [(2, .go (owns 2 1 1))] [3, 5, 126, 130] [(128, .int .i64 o.vcpu)] ?_
      refine od_ ?_
      exact wk (hmx17 () trivial) [3, 5, 126, 128, 130] [[_], [_], [_], [_], _, _, _, _] [0, 1, 2, 3, 4, 5, 6, 7] rfl rfl
     ·
      refine qo0 1 [(3, .go (owns 2 0 7))] [3, 5, 126, 127, 130] [(129, .agg #[.int .i64 o.kind, .int .i64 o.vcpu, .int .i64 o.al.vcpu, .int .i64 o.al.port, .int .i64 o.al.every, .int .i64 o.time, .bool o.on])] ?_
      refine od_ ?_
      exact wk (hmx19 () trivial) [3, 5, 126, 127, 129, 130] [[_], [_], [_], [_], _, _, _, _] [0, 1, 2, 3, 4, 5, 6, 7] rfl rfl
     ·
      refine mo0 1 [] [3, 5, 126, 127, 130] (fun γ559 => [(21, .pointer (some ⟨γ559 0, 0, none⟩))]) (fun γ559 L => bx (γ559 0) (#[.int .i64 0, .slice none 0 0, .slice none 0 0]) 27 :: L) (fun γ559 => ?_)
      refine od_ ?_
      exact wk (hmx21 γ559 trivial) [3, 5, 21, 126, 127, 130] [[_], [_], [_], [_], [_], _, _, _, _] [0, 1, 2, 3, 4, 5, 6, 7, 8] rfl rfl
    refine any_cutX (V := Unit) (fun _ => True) 10 #[true, true, false, true, false, false, false, false, false, false, false, false, false] (fun _ => [(3, .pointer (some ⟨γ1 1, 0, none⟩)), (5, .pointer (some ⟨γ6 0, 0, none⟩)), (126, .agg #[.int .i64 now, .slice q5 m5 c5, .slice p5 k5 d5]), (127, .pointer (some ⟨γ1 1, 1, none⟩)), (129, .agg #[.int .i64 o.kind, .int .i64 o.vcpu, .int .i64 o.al.vcpu, .int .i64 o.al.port, .int .i64 o.al.every, .int .i64 o.time, .bool o.on])]) (fun _ => bx (γ215 0) (#[.int .i64 nw135, .slice q135 m135 c135, .slice p135 k135 d135]) 27 :: bx (γ6 0) (#[.int .i64 now, .slice q5 m5 c5, .slice p5 k5 d5]) 27 :: bx (γ1 1) (#[.int .i64 o.kind, .int .i64 o.vcpu, .int .i64 o.al.vcpu, .int .i64 o.al.port, .int .i64 o.al.every, .int .i64 o.time, .bool o.on]) 58 :: bx (γ1 0) (#[.int .i64 now, .slice p n cap, .slice pa na ca]) 27 :: (Y135 ++ (Yx135 ++ (Y5 ++ (Yx5 ++ []))))) ?_ (fun hmx7 => ?_)
    ·
     rintro _ _
     refine any_fork [2, 4, 10] (by kernel_rfl) (by simp) (each_cons _ rfl ?_ (each_cons _ rfl ?_ (each_cons _ rfl ?_ (each_nil))))
     ·
      refine qo0 1 [(2, .go (owns 2 1 1))] [3, 5, 126, 129] [(128, .int .i64 o.vcpu)] ?_
      refine od_ ?_
      exact wk (hmx16 () trivial) [3, 5, 126, 128, 129] [[_], [_], [_], [_], _, _, _, _] [0, 1, 2, 3, 4, 5, 6, 7] rfl rfl
     ·
      refine qo0 1 [(4, .go (owns 1 0 3))] [3, 5, 126, 127, 129] [(130, .agg #[.int .i64 now, .slice q5 m5 c5, .slice p5 k5 d5])] ?_
      refine od_ ?_
      exact wk (hmx19 () trivial) [3, 5, 126, 127, 129, 130] [[_], [_], [_], [_], _, _, _, _] [0, 1, 2, 3, 4, 5, 6, 7] rfl rfl
     ·
      refine mo0 1 [] [3, 5, 126, 127, 129] (fun γ559 => [(21, .pointer (some ⟨γ559 0, 0, none⟩))]) (fun γ559 L => bx (γ559 0) (#[.int .i64 0, .slice none 0 0, .slice none 0 0]) 27 :: L) (fun γ559 => ?_)
      refine od_ ?_
      exact wk (hmx20 γ559 trivial) [3, 5, 21, 126, 127, 129] [[_], [_], [_], [_], [_], _, _, _, _] [0, 1, 2, 3, 4, 5, 6, 7, 8] rfl rfl
    refine any_cutX (V := Unit) (fun _ => True) 10 #[true, true, true, false, false, false, false, false, false, false, false, false, false] (fun _ => [(3, .pointer (some ⟨γ1 1, 0, none⟩)), (5, .pointer (some ⟨γ6 0, 0, none⟩)), (126, .agg #[.int .i64 now, .slice q5 m5 c5, .slice p5 k5 d5]), (128, .int .i64 o.vcpu)]) (fun _ => bx (γ215 0) (#[.int .i64 nw135, .slice q135 m135 c135, .slice p135 k135 d135]) 27 :: bx (γ6 0) (#[.int .i64 now, .slice q5 m5 c5, .slice p5 k5 d5]) 27 :: bx (γ1 1) (#[.int .i64 o.kind, .int .i64 o.vcpu, .int .i64 o.al.vcpu, .int .i64 o.al.port, .int .i64 o.al.every, .int .i64 o.time, .bool o.on]) 58 :: bx (γ1 0) (#[.int .i64 now, .slice p n cap, .slice pa na ca]) 27 :: (Y135 ++ (Yx135 ++ (Y5 ++ (Yx5 ++ []))))) ?_ (fun hmx6 => ?_)
    ·
     rintro _ _
     refine any_fork [3, 4, 10] (by kernel_rfl) (by simp) (each_cons _ rfl ?_ (each_cons _ rfl ?_ (each_cons _ rfl ?_ (each_nil))))
     ·
      refine qo0 1 [(3, .go (owns 2 0 7))] [3, 5, 126, 128] [(129, .agg #[.int .i64 o.kind, .int .i64 o.vcpu, .int .i64 o.al.vcpu, .int .i64 o.al.port, .int .i64 o.al.every, .int .i64 o.time, .bool o.on])] ?_
      refine od_ ?_
      exact wk (hmx16 () trivial) [3, 5, 126, 128, 129] [[_], [_], [_], [_], _, _, _, _] [0, 1, 2, 3, 4, 5, 6, 7] rfl rfl
     ·
      refine qo0 1 [(4, .go (owns 1 0 3))] [3, 5, 126, 128] [(130, .agg #[.int .i64 now, .slice q5 m5 c5, .slice p5 k5 d5])] ?_
      refine od_ ?_
      exact wk (hmx17 () trivial) [3, 5, 126, 128, 130] [[_], [_], [_], [_], _, _, _, _] [0, 1, 2, 3, 4, 5, 6, 7] rfl rfl
     ·
      refine mo0 1 [] [3, 5, 126, 128] (fun γ559 => [(21, .pointer (some ⟨γ559 0, 0, none⟩))]) (fun γ559 L => bx (γ559 0) (#[.int .i64 0, .slice none 0 0, .slice none 0 0]) 27 :: L) (fun γ559 => ?_)
      refine od_ ?_
      exact wk (hmx18 γ559 trivial) [3, 5, 21, 126, 128] [[_], [_], [_], [_], [_], _, _, _, _] [0, 1, 2, 3, 4, 5, 6, 7, 8] rfl rfl
    refine any_cutX (V := (Nat → Nat)) (fun γ559 => True) 11 #[false, true, false, false, false, false, false, false, false, false, true, false, false] (fun γ559 => [(3, .pointer (some ⟨γ1 1, 0, none⟩)), (5, .pointer (some ⟨γ6 0, 0, none⟩)), (21, .pointer (some ⟨γ559 0, 0, none⟩)), (127, .pointer (some ⟨γ1 1, 1, none⟩))]) (fun γ559 => bx (γ559 0) (#[.int .i64 0, .slice none 0 0, .slice none 0 0]) 27 :: bx (γ215 0) (#[.int .i64 nw135, .slice q135 m135 c135, .slice p135 k135 d135]) 27 :: bx (γ6 0) (#[.int .i64 now, .slice q5 m5 c5, .slice p5 k5 d5]) 27 :: bx (γ1 1) (#[.int .i64 o.kind, .int .i64 o.vcpu, .int .i64 o.al.vcpu, .int .i64 o.al.port, .int .i64 o.al.every, .int .i64 o.time, .bool o.on]) 58 :: bx (γ1 0) (#[.int .i64 now, .slice p n cap, .slice pa na ca]) 27 :: (Y135 ++ (Yx135 ++ (Y5 ++ (Yx5 ++ []))))) ?_ (fun hmx5 => ?_)
    ·
     rintro γ559 _
     refine any_fork [0, 2, 3, 4] (by kernel_rfl) (by simp) (each_cons _ rfl ?_ (each_cons _ rfl ?_ (each_cons _ rfl ?_ (each_cons _ rfl ?_ (each_nil)))))
     ·
      refine qo0 1 [(0, .go (owns 2 0 3))] [3, 5, 21, 127] [(126, .agg #[.int .i64 now, .slice q5 m5 c5, .slice p5 k5 d5])] ?_
      refine od_ ?_
      exact wk (hmx9 γ559 trivial) [3, 5, 21, 126, 127] [[_], [_], [_], [_], [_], _, _, _, _] [0, 1, 2, 3, 4, 5, 6, 7, 8] rfl rfl
     ·
      refine qo0 1 [(2, .go (owns 3 1 1))] [3, 5, 21] [(128, .int .i64 o.vcpu)] ?_
      refine od_ ?_
      exact wk (hmx12 γ559 trivial) [3, 5, 21, 128] [[_], [_], [_], [_], [_], _, _, _, _] [0, 1, 2, 3, 4, 5, 6, 7, 8] rfl rfl
     ·
      refine qo0 1 [(3, .go (owns 3 0 7))] [3, 5, 21, 127] [(129, .agg #[.int .i64 o.kind, .int .i64 o.vcpu, .int .i64 o.al.vcpu, .int .i64 o.al.port, .int .i64 o.al.every, .int .i64 o.time, .bool o.on])] ?_
      refine od_ ?_
      exact wk (hmx14 γ559 trivial) [3, 5, 21, 127, 129] [[_], [_], [_], [_], [_], _, _, _, _] [0, 1, 2, 3, 4, 5, 6, 7, 8] rfl rfl
     ·
      refine qo0 1 [(4, .go (owns 2 0 3))] [3, 5, 21, 127] [(130, .agg #[.int .i64 now, .slice q5 m5 c5, .slice p5 k5 d5])] ?_
      refine od_ ?_
      exact wk (hmx15 γ559 trivial) [3, 5, 21, 127, 130] [[_], [_], [_], [_], [_], _, _, _, _] [0, 1, 2, 3, 4, 5, 6, 7, 8] rfl rfl
    refine any_cutX (V := Unit) (fun _ => True) 11 #[false, true, false, false, true, false, false, false, false, false, false, false, false] (fun _ => [(3, .pointer (some ⟨γ1 1, 0, none⟩)), (5, .pointer (some ⟨γ6 0, 0, none⟩)), (127, .pointer (some ⟨γ1 1, 1, none⟩)), (130, .agg #[.int .i64 now, .slice q5 m5 c5, .slice p5 k5 d5])]) (fun _ => bx (γ215 0) (#[.int .i64 nw135, .slice q135 m135 c135, .slice p135 k135 d135]) 27 :: bx (γ6 0) (#[.int .i64 now, .slice q5 m5 c5, .slice p5 k5 d5]) 27 :: bx (γ1 1) (#[.int .i64 o.kind, .int .i64 o.vcpu, .int .i64 o.al.vcpu, .int .i64 o.al.port, .int .i64 o.al.every, .int .i64 o.time, .bool o.on]) 58 :: bx (γ1 0) (#[.int .i64 now, .slice p n cap, .slice pa na ca]) 27 :: (Y135 ++ (Yx135 ++ (Y5 ++ (Yx5 ++ []))))) ?_ (fun hmx4 => ?_)
    ·
     rintro _ _
     refine any_fork [0, 2, 3, 10] (by kernel_rfl) (by simp) (each_cons _ rfl ?_ (each_cons _ rfl ?_ (each_cons _ rfl ?_ (each_cons _ rfl ?_ (each_nil)))))
     ·
      refine qo0 1 [(0, .go (owns 1 0 3))] [3, 5, 127, 130] [(126, .agg #[.int .i64 now, .slice q5 m5 c5, .slice p5 k5 d5])] ?_
      refine od_ ?_
      exact wk (hmx8 () trivial) [3, 5, 126, 127, 130] [[_], [_], [_], [_], _, _, _, _] [0, 1, 2, 3, 4, 5, 6, 7] rfl rfl
     ·
      refine qo0 1 [(2, .go (owns 2 1 1))] [3, 5, 130] [(128, .int .i64 o.vcpu)] ?_
      refine od_ ?_
      exact wk (hmx11 () trivial) [3, 5, 128, 130] [[_], [_], [_], [_], _, _, _, _] [0, 1, 2, 3, 4, 5, 6, 7] rfl rfl
     ·
      refine qo0 1 [(3, .go (owns 2 0 7))] [3, 5, 127, 130] [(129, .agg #[.int .i64 o.kind, .int .i64 o.vcpu, .int .i64 o.al.vcpu, .int .i64 o.al.port, .int .i64 o.al.every, .int .i64 o.time, .bool o.on])] ?_
      refine od_ ?_
      exact wk (hmx13 () trivial) [3, 5, 127, 129, 130] [[_], [_], [_], [_], _, _, _, _] [0, 1, 2, 3, 4, 5, 6, 7] rfl rfl
     ·
      refine mo0 1 [] [3, 5, 127, 130] (fun γ559 => [(21, .pointer (some ⟨γ559 0, 0, none⟩))]) (fun γ559 L => bx (γ559 0) (#[.int .i64 0, .slice none 0 0, .slice none 0 0]) 27 :: L) (fun γ559 => ?_)
      refine od_ ?_
      exact wk (hmx15 γ559 trivial) [3, 5, 21, 127, 130] [[_], [_], [_], [_], [_], _, _, _, _] [0, 1, 2, 3, 4, 5, 6, 7, 8] rfl rfl
    refine any_cutX (V := Unit) (fun _ => True) 11 #[false, true, false, true, false, false, false, false, false, false, false, false, false] (fun _ => [(3, .pointer (some ⟨γ1 1, 0, none⟩)), (5, .pointer (some ⟨γ6 0, 0, none⟩)), (127, .pointer (some ⟨γ1 1, 1, none⟩)), (129, .agg #[.int .i64 o.kind, .int .i64 o.vcpu, .int .i64 o.al.vcpu, .int .i64 o.al.port, .int .i64 o.al.every, .int .i64 o.time, .bool o.on])]) (fun _ => bx (γ215 0) (#[.int .i64 nw135, .slice q135 m135 c135, .slice p135 k135 d135]) 27 :: bx (γ6 0) (#[.int .i64 now, .slice q5 m5 c5, .slice p5 k5 d5]) 27 :: bx (γ1 1) (#[.int .i64 o.kind, .int .i64 o.vcpu, .int .i64 o.al.vcpu, .int .i64 o.al.port, .int .i64 o.al.every, .int .i64 o.time, .bool o.on]) 58 :: bx (γ1 0) (#[.int .i64 now, .slice p n cap, .slice pa na ca]) 27 :: (Y135 ++ (Yx135 ++ (Y5 ++ (Yx5 ++ []))))) ?_ (fun hmx3 => ?_)
    ·
     rintro _ _
     refine any_fork [0, 2, 4, 10] (by kernel_rfl) (by simp) (each_cons _ rfl ?_ (each_cons _ rfl ?_ (each_cons _ rfl ?_ (each_cons _ rfl ?_ (each_nil)))))
     ·
      refine qo0 1 [(0, .go (owns 1 0 3))] [3, 5, 127, 129] [(126, .agg #[.int .i64 now, .slice q5 m5 c5, .slice p5 k5 d5])] ?_
      refine od_ ?_
      exact wk (hmx7 () trivial) [3, 5, 126, 127, 129] [[_], [_], [_], [_], _, _, _, _] [0, 1, 2, 3, 4, 5, 6, 7] rfl rfl
     ·
      refine qo0 1 [(2, .go (owns 2 1 1))] [3, 5, 129] [(128, .int .i64 o.vcpu)] ?_
      refine od_ ?_
      exact wk (hmx10 () trivial) [3, 5, 128, 129] [[_], [_], [_], [_], _, _, _, _] [0, 1, 2, 3, 4, 5, 6, 7] rfl rfl
     ·
      refine qo0 1 [(4, .go (owns 1 0 3))] [3, 5, 127, 129] [(130, .agg #[.int .i64 now, .slice q5 m5 c5, .slice p5 k5 d5])] ?_
      refine od_ ?_
      exact wk (hmx13 () trivial) [3, 5, 127, 129, 130] [[_], [_], [_], [_], _, _, _, _] [0, 1, 2, 3, 4, 5, 6, 7] rfl rfl
     ·
      refine mo0 1 [] [3, 5, 127, 129] (fun γ559 => [(21, .pointer (some ⟨γ559 0, 0, none⟩))]) (fun γ559 L => bx (γ559 0) (#[.int .i64 0, .slice none 0 0, .slice none 0 0]) 27 :: L) (fun γ559 => ?_)
      refine od_ ?_
      exact wk (hmx14 γ559 trivial) [3, 5, 21, 127, 129] [[_], [_], [_], [_], [_], _, _, _, _] [0, 1, 2, 3, 4, 5, 6, 7, 8] rfl rfl
    refine any_cutX (V := Unit) (fun _ => True) 11 #[false, true, true, false, false, false, false, false, false, false, false, false, false] (fun _ => [(3, .pointer (some ⟨γ1 1, 0, none⟩)), (5, .pointer (some ⟨γ6 0, 0, none⟩)), (128, .int .i64 o.vcpu)]) (fun _ => bx (γ215 0) (#[.int .i64 nw135, .slice q135 m135 c135, .slice p135 k135 d135]) 27 :: bx (γ6 0) (#[.int .i64 now, .slice q5 m5 c5, .slice p5 k5 d5]) 27 :: bx (γ1 1) (#[.int .i64 o.kind, .int .i64 o.vcpu, .int .i64 o.al.vcpu, .int .i64 o.al.port, .int .i64 o.al.every, .int .i64 o.time, .bool o.on]) 58 :: bx (γ1 0) (#[.int .i64 now, .slice p n cap, .slice pa na ca]) 27 :: (Y135 ++ (Yx135 ++ (Y5 ++ (Yx5 ++ []))))) ?_ (fun hmx2 => ?_)
    ·
     rintro _ _
     refine any_fork [0, 3, 4, 10] (by kernel_rfl) (by simp) (each_cons _ rfl ?_ (each_cons _ rfl ?_ (each_cons _ rfl ?_ (each_cons _ rfl ?_ (each_nil)))))
     ·
      refine qo0 1 [(0, .go (owns 1 0 3))] [3, 5, 128] [(126, .agg #[.int .i64 now, .slice q5 m5 c5, .slice p5 k5 d5])] ?_
      refine od_ ?_
      exact wk (hmx6 () trivial) [3, 5, 126, 128] [[_], [_], [_], [_], _, _, _, _] [0, 1, 2, 3, 4, 5, 6, 7] rfl rfl
     ·
      refine qo0 1 [(3, .go (owns 2 0 7))] [3, 5, 128] [(129, .agg #[.int .i64 o.kind, .int .i64 o.vcpu, .int .i64 o.al.vcpu, .int .i64 o.al.port, .int .i64 o.al.every, .int .i64 o.time, .bool o.on])] ?_
      refine od_ ?_
      exact wk (hmx10 () trivial) [3, 5, 128, 129] [[_], [_], [_], [_], _, _, _, _] [0, 1, 2, 3, 4, 5, 6, 7] rfl rfl
     ·
      refine qo0 1 [(4, .go (owns 1 0 3))] [3, 5, 128] [(130, .agg #[.int .i64 now, .slice q5 m5 c5, .slice p5 k5 d5])] ?_
      refine od_ ?_
      exact wk (hmx11 () trivial) [3, 5, 128, 130] [[_], [_], [_], [_], _, _, _, _] [0, 1, 2, 3, 4, 5, 6, 7] rfl rfl
     ·
      refine mo0 1 [] [3, 5, 128] (fun γ559 => [(21, .pointer (some ⟨γ559 0, 0, none⟩))]) (fun γ559 L => bx (γ559 0) (#[.int .i64 0, .slice none 0 0, .slice none 0 0]) 27 :: L) (fun γ559 => ?_)
      refine od_ ?_
      exact wk (hmx12 γ559 trivial) [3, 5, 21, 128] [[_], [_], [_], [_], [_], _, _, _, _] [0, 1, 2, 3, 4, 5, 6, 7, 8] rfl rfl
    refine any_cutX (V := Unit) (fun _ => True) 11 #[true, true, false, false, false, false, false, false, false, false, false, false, false] (fun _ => [(3, .pointer (some ⟨γ1 1, 0, none⟩)), (5, .pointer (some ⟨γ6 0, 0, none⟩)), (126, .agg #[.int .i64 now, .slice q5 m5 c5, .slice p5 k5 d5]), (127, .pointer (some ⟨γ1 1, 1, none⟩))]) (fun _ => bx (γ215 0) (#[.int .i64 nw135, .slice q135 m135 c135, .slice p135 k135 d135]) 27 :: bx (γ6 0) (#[.int .i64 now, .slice q5 m5 c5, .slice p5 k5 d5]) 27 :: bx (γ1 1) (#[.int .i64 o.kind, .int .i64 o.vcpu, .int .i64 o.al.vcpu, .int .i64 o.al.port, .int .i64 o.al.every, .int .i64 o.time, .bool o.on]) 58 :: bx (γ1 0) (#[.int .i64 now, .slice p n cap, .slice pa na ca]) 27 :: (Y135 ++ (Yx135 ++ (Y5 ++ (Yx5 ++ []))))) ?_ (fun hmx1 => ?_)
    ·
     rintro _ _
     refine any_fork [2, 3, 4, 10] (by kernel_rfl) (by simp) (each_cons _ rfl ?_ (each_cons _ rfl ?_ (each_cons _ rfl ?_ (each_cons _ rfl ?_ (each_nil)))))
     ·
      refine qo0 1 [(2, .go (owns 2 1 1))] [3, 5, 126] [(128, .int .i64 o.vcpu)] ?_
      refine od_ ?_
      exact wk (hmx6 () trivial) [3, 5, 126, 128] [[_], [_], [_], [_], _, _, _, _] [0, 1, 2, 3, 4, 5, 6, 7] rfl rfl
     ·
      refine qo0 1 [(3, .go (owns 2 0 7))] [3, 5, 126, 127] [(129, .agg #[.int .i64 o.kind, .int .i64 o.vcpu, .int .i64 o.al.vcpu, .int .i64 o.al.port, .int .i64 o.al.every, .int .i64 o.time, .bool o.on])] ?_
      refine od_ ?_
      exact wk (hmx7 () trivial) [3, 5, 126, 127, 129] [[_], [_], [_], [_], _, _, _, _] [0, 1, 2, 3, 4, 5, 6, 7] rfl rfl
     ·
      refine qo0 1 [(4, .go (owns 1 0 3))] [3, 5, 126, 127] [(130, .agg #[.int .i64 now, .slice q5 m5 c5, .slice p5 k5 d5])] ?_
      refine od_ ?_
      exact wk (hmx8 () trivial) [3, 5, 126, 127, 130] [[_], [_], [_], [_], _, _, _, _] [0, 1, 2, 3, 4, 5, 6, 7] rfl rfl
     ·
      refine mo0 1 [] [3, 5, 126, 127] (fun γ559 => [(21, .pointer (some ⟨γ559 0, 0, none⟩))]) (fun γ559 L => bx (γ559 0) (#[.int .i64 0, .slice none 0 0, .slice none 0 0]) 27 :: L) (fun γ559 => ?_)
      refine od_ ?_
      exact wk (hmx9 γ559 trivial) [3, 5, 21, 126, 127] [[_], [_], [_], [_], [_], _, _, _, _] [0, 1, 2, 3, 4, 5, 6, 7, 8] rfl rfl
    refine any_fork [0, 2, 3, 4, 10] (by kernel_rfl) (by simp) (each_cons _ rfl ?_ (each_cons _ rfl ?_ (each_cons _ rfl ?_ (each_cons _ rfl ?_ (each_cons _ rfl ?_ (each_nil))))))
    ·
     refine qo0 1 [(0, .go (owns 1 0 3))] [3, 5, 127] [(126, .agg #[.int .i64 now, .slice q5 m5 c5, .slice p5 k5 d5])] ?_
     refine od_ ?_
     exact wk (hmx1 () trivial) [3, 5, 126, 127] [[_], [_], [_], [_], _, _, _, _] [0, 1, 2, 3, 4, 5, 6, 7] rfl rfl
    ·
     refine qo0 1 [(2, .go (owns 2 1 1))] [3, 5] [(128, .int .i64 o.vcpu)] ?_
     refine od_ ?_
     exact wk (hmx2 () trivial) [3, 5, 128] [[_], [_], [_], [_], _, _, _, _] [0, 1, 2, 3, 4, 5, 6, 7] rfl rfl
    ·
     refine qo0 1 [(3, .go (owns 2 0 7))] [3, 5, 127] [(129, .agg #[.int .i64 o.kind, .int .i64 o.vcpu, .int .i64 o.al.vcpu, .int .i64 o.al.port, .int .i64 o.al.every, .int .i64 o.time, .bool o.on])] ?_
     refine od_ ?_
     exact wk (hmx3 () trivial) [3, 5, 127, 129] [[_], [_], [_], [_], _, _, _, _] [0, 1, 2, 3, 4, 5, 6, 7] rfl rfl
    ·
     refine qo0 1 [(4, .go (owns 1 0 3))] [3, 5, 127] [(130, .agg #[.int .i64 now, .slice q5 m5 c5, .slice p5 k5 d5])] ?_
     refine od_ ?_
     exact wk (hmx4 () trivial) [3, 5, 127, 130] [[_], [_], [_], [_], _, _, _, _] [0, 1, 2, 3, 4, 5, 6, 7] rfl rfl
    ·
     refine mo0 1 [] [3, 5, 127] (fun γ559 => [(21, .pointer (some ⟨γ559 0, 0, none⟩))]) (fun γ559 L => bx (γ559 0) (#[.int .i64 0, .slice none 0 0, .slice none 0 0]) 27 :: L) (fun γ559 => ?_)
     refine od_ ?_
     exact wk (hmx5 γ559 trivial) [3, 5, 21, 127] [[_], [_], [_], [_], [_], _, _, _, _] [0, 1, 2, 3, 4, 5, 6, 7, 8] rfl rfl
   rintro ⟨Y479, Yx479, c479, d479, er479, k479, m479, nw479, p479, q479, rl479, tl479, γ559⟩ ⟨hE479, hO479, hP479⟩
   refine any_nil (by kernel_rfl) ?_
   refine ds_ (sq_ (sq_ ?_))
   rcases q664 : decide (vcB o.vcpu = true ∧ aheadP now (otV now o.on o.time)) with _ | _
   ·
    rw [sleepV_no q8 (of_decide_eq_false q664)] at hE479
    simp only [Prod.mk.injEq] at hE479
    obtain ⟨e1_479, e2_479, e3_479, e4_479⟩ := hE479
    subst e1_479
    subst e2_479
    subst e3_479
    subst e4_479
    have hm479 := hO479.len
    have hn479 := hP479.len
    simp only [List.length_cons, List.length_nil] at hm479
    simp only [List.length_cons, List.length_nil] at hn479
    refine qa0 [] [3, 5, 21] [(136, .bool true)] (ds_ (t_ (sq_ ?_)))
    by_cases q667 : ((k479 : Nat) : Int) = (0 : Int)
    ·
     refine qa [(1, .go (owns 0 2 1)), (3, .yes)] [] [(4, .bool true)] ([((k479 : Nat) : Int) = (0 : Int)]) (al1 q667) (ds_ (rt ([]) (.bool true) ?_))
     exact fun w' hw => ⟨rfl, hw.below⟩
    ·
     refine qa [(1, .go (owns 0 2 1)), (3, .no)] [] [(4, .bool false)] ([¬ (((k479 : Nat) : Int) = (0 : Int))]) (al1 q667) (ds_ (rt ([]) (.bool false) ?_))
     exfalso; omega
   ·
    rw [sleepV_yes q8 (of_decide_eq_true q664)] at hE479
    simp only [Prod.mk.injEq] at hE479
    obtain ⟨e1_479, e2_479, e3_479, e4_479⟩ := hE479
    subst e1_479
    subst e2_479
    subst e3_479
    subst e4_479
    have hm479 := hO479.len
    have hn479 := hP479.len
    refine qa0 [] [3, 5, 21] [(136, .bool false)] (ds_ (f_ (at_skip (ds_ (sq_ ?_)))))
    have hsv := of_decide_eq_true q664
    have hvi : 1 ≤ o.vcpu ∧ o.vcpu ≤ 16 := of_decide_eq_true hsv.1
    have hg4 := sleep_good q8 hsv.1 hsv.2
    have ht4 : getK Tim.id (tput (shT ts) (15 + o.vcpu) (otV now o.on o.time)) (15 + o.vcpu) = some ⟨15 + o.vcpu, (otV now o.on o.time)⟩ := get_tput_self hgA.gw.rs
    have e4 : slpO now (tput (shT ts) (15 + o.vcpu) (otV now o.on o.time)) (shR rs) o.vcpu = some ⟨15 + o.vcpu, (otV now o.on o.time)⟩ := by rw [slpO_ok hg4 hsv.1]; exact ht4
    have e5 := wakeV_ok hg4 hsv.1 ht4
    have hg5 := wake_good hg4 hsv.1 ht4
    have hn5 := get_del_self (al_iff.1 hg4).gw.rs ht4
    have e6 : slpO now (delK Tim.id (tput (shT ts) (15 + o.vcpu) (otV now o.on o.time)) (15 + o.vcpu)) (shR rs) o.vcpu = none := by rw [slpO_ok hg5 hsv.1]; exact hn5
    have e7 := wakeV_none hg5 hsv.1 hn5
    have hl4 := (al_iff.1 hg4).gw.len
    have hl5 := (al_iff.1 hg5).gw.len
    refine ao_ (qo0 3 [(0, .go (owns 0 0 3)), (2, .go (owns 3 1 1))] [3, 5, 21] [(142, .agg #[.int .i64 now, .slice q479 m479 c479, .slice p479 k479 d479]), (144, .int .i64 o.vcpu)] (cD (.tuple #[.int .i64 ((otV now o.on o.time)), .bool true]) Try.call15 (fun w hw => by have := asleeps_t now q479 m479 c479 ((tput (shT ts) (15 + o.vcpu) (otV now o.on o.time))) p479 k479 d479 ((shR rs)) o.vcpu w (hO479.atN (A := [_, _, _, _, _]) hw) hO479.len (by omega) (hP479.atN (A := (_ :: _ :: _ :: _ :: _ :: Y479)) hw) hP479.len (by omega) (by omega) (by omega); rw [e4] at this; exact this) (qo0 5 [] [3, 5, 21] [(22, .int .i64 ((otV now o.on o.time))), (23, .bool true)] (on_ (ds_ (sq_ (ao_ (qo0 3 [(0, .go (owns 0 0 3)), (2, .go (owns 3 1 1))] [3, 5, 22, 23] [(149, .agg #[.int .i64 now, .slice q479 m479 c479, .slice p479 k479 d479]), (151, .int .i64 o.vcpu)] (cP (fun v L' => ∃ q_ m_ c_ Y_ q2_ m2_ c2_ X_, v = .tuple #[.agg #[.int .i64 now, .slice q_ m_ c_, .slice q2_ m2_ c2_], .int .i64 0] ∧ L' = List.take 5 (bx (γ559 0) (#[.int .i64 now, .slice q479 m479 c479, .slice p479 k479 d479]) 27 :: bx (γ215 0) (#[.int .i64 nw135, .slice q135 m135 c135, .slice p135 k135 d135]) 27 :: bx (γ6 0) (#[.int .i64 now, .slice q5 m5 c5, .slice p5 k5 d5]) 27 :: bx (γ1 1) (#[.int .i64 o.kind, .int .i64 o.vcpu, .int .i64 o.al.vcpu, .int .i64 o.al.port, .int .i64 o.al.every, .int .i64 o.time, .bool o.on]) 58 :: bx (γ1 0) (#[.int .i64 now, .slice p n cap, .slice pa na ca]) 27 :: (Y479 ++ (Yx479 ++ (Y135 ++ (Yx135 ++ (Y5 ++ (Yx5 ++ []))))))) ++ (Y_ ++ (X_ ++ List.drop 5 (bx (γ559 0) (#[.int .i64 now, .slice q479 m479 c479, .slice p479 k479 d479]) 27 :: bx (γ215 0) (#[.int .i64 nw135, .slice q135 m135 c135, .slice p135 k135 d135]) 27 :: bx (γ6 0) (#[.int .i64 now, .slice q5 m5 c5, .slice p5 k5 d5]) 27 :: bx (γ1 1) (#[.int .i64 o.kind, .int .i64 o.vcpu, .int .i64 o.al.vcpu, .int .i64 o.al.port, .int .i64 o.al.every, .int .i64 o.time, .bool o.on]) 58 :: bx (γ1 0) (#[.int .i64 now, .slice p n cap, .slice pa na ca]) 27 :: (Y479 ++ (Yx479 ++ (Y135 ++ (Yx135 ++ (Y5 ++ (Yx5 ++ []))))))))) ∧ SlO 88 Y_ q_ m_ c_ (delK Tim.id (tput (shT ts) (15 + o.vcpu) (otV now o.on o.time)) (15 + o.vcpu)) ∧ SlO 47 X_ q2_ m2_ c2_ (shR rs)) Try.call25 (fun w hw => by have := wake_t now q479 m479 c479 ((tput (shT ts) (15 + o.vcpu) (otV now o.on o.time))) p479 k479 d479 ((shR rs)) o.vcpu w (hO479.atN (A := [_, _, _, _, _]) hw) hO479.len (by omega) (hP479.atN (A := (_ :: _ :: _ :: _ :: _ :: Y479)) hw) hP479.len (by omega); rw [e5] at this; exact this.mono fun e w' ⟨q_, m_, c_, Y_, q2_, m2_, c2_, X_, he, h1, h2, hb, hY⟩ => ⟨_, _, he, ⟨q_, m_, c_, Y_, q2_, m2_, c2_, X_, rfl, rfl, h1, h2⟩, hw.joinT hb hY 5⟩) ?_)))))))))
    rintro v674 L674 ⟨q674, m674, c674, Y674, p674, k674, d674, Yx674, rfl, rfl, hO674, hP674⟩
    have hm674 := hO674.len
    have hn674 := hP674.len
    refine mo0 6 [(8, .go (owns 0 0 3))] [3, 5, 22, 23] (fun γ675 => [(24, .pointer (some ⟨γ675 0, 0, none⟩)), (25, .int .i64 0)]) (fun γ675 L => bx (γ675 0) (#[.int .i64 now, .slice q674 m674 c674, .slice p674 k674 d674]) 27 :: L) (fun γ675 => on_ (ds_ (sq_ (ao_ (qo0 3 [(0, .go (owns 0 0 3)), (2, .go (owns 4 1 1))] [3, 5, 22, 23, 24, 25] [(156, .agg #[.int .i64 now, .slice q674 m674 c674, .slice p674 k674 d674]), (158, .int .i64 o.vcpu)] (cD (.tuple #[.int .i64 0, .bool false]) Try.call15 (fun w hw => by have := asleeps_t now q674 m674 c674 ((delK Tim.id (tput (shT ts) (15 + o.vcpu) (otV now o.on o.time)) (15 + o.vcpu))) p674 k674 d674 ((shR rs)) o.vcpu w (hO674.atN (A := [_, _, _, _, _, _]) hw) hO674.len (by omega) (hP674.atN (A := (_ :: _ :: _ :: _ :: _ :: _ :: Y674)) hw) hP674.len (by omega) (by omega) (by omega); rw [e6] at this; exact this) (qo0 5 [] [3, 5, 22, 23, 24, 25] [(27, .bool false)] (on_ (ds_ (sq_ (ao_ (qo0 3 [(0, .go (owns 0 0 3)), (2, .go (owns 4 1 1))] [3, 5, 22, 23, 25, 27] [(163, .agg #[.int .i64 now, .slice q674 m674 c674, .slice p674 k674 d674]), (165, .int .i64 o.vcpu)] (cP (fun v L' => ∃ q_ m_ c_ Y_ q2_ m2_ c2_ X_, v = .tuple #[.agg #[.int .i64 0, .slice q_ m_ c_, .slice q2_ m2_ c2_], .int .i64 4] ∧ L' = List.take 6 (bx (γ675 0) (#[.int .i64 now, .slice q674 m674 c674, .slice p674 k674 d674]) 27 :: bx (γ559 0) (#[.int .i64 now, .slice q479 m479 c479, .slice p479 k479 d479]) 27 :: bx (γ215 0) (#[.int .i64 nw135, .slice q135 m135 c135, .slice p135 k135 d135]) 27 :: bx (γ6 0) (#[.int .i64 now, .slice q5 m5 c5, .slice p5 k5 d5]) 27 :: bx (γ1 1) (#[.int .i64 o.kind, .int .i64 o.vcpu, .int .i64 o.al.vcpu, .int .i64 o.al.port, .int .i64 o.al.every, .int .i64 o.time, .bool o.on]) 58 :: bx (γ1 0) (#[.int .i64 now, .slice p n cap, .slice pa na ca]) 27 :: (Y674 ++ (Yx674 ++ (Y479 ++ (Yx479 ++ (Y135 ++ (Yx135 ++ (Y5 ++ (Yx5 ++ []))))))))) ++ (Y_ ++ (X_ ++ List.drop 6 (bx (γ675 0) (#[.int .i64 now, .slice q674 m674 c674, .slice p674 k674 d674]) 27 :: bx (γ559 0) (#[.int .i64 now, .slice q479 m479 c479, .slice p479 k479 d479]) 27 :: bx (γ215 0) (#[.int .i64 nw135, .slice q135 m135 c135, .slice p135 k135 d135]) 27 :: bx (γ6 0) (#[.int .i64 now, .slice q5 m5 c5, .slice p5 k5 d5]) 27 :: bx (γ1 1) (#[.int .i64 o.kind, .int .i64 o.vcpu, .int .i64 o.al.vcpu, .int .i64 o.al.port, .int .i64 o.al.every, .int .i64 o.time, .bool o.on]) 58 :: bx (γ1 0) (#[.int .i64 now, .slice p n cap, .slice pa na ca]) 27 :: (Y674 ++ (Yx674 ++ (Y479 ++ (Yx479 ++ (Y135 ++ (Yx135 ++ (Y5 ++ (Yx5 ++ []))))))))))) ∧ SlO 88 Y_ q_ m_ c_ ([] : List Tim) ∧ SlO 47 X_ q2_ m2_ c2_ ([] : List Alm)) Try.call25 (fun w hw => by have := wake_t now q674 m674 c674 ((delK Tim.id (tput (shT ts) (15 + o.vcpu) (otV now o.on o.time)) (15 + o.vcpu))) p674 k674 d674 ((shR rs)) o.vcpu w (hO674.atN (A := [_, _, _, _, _, _]) hw) hO674.len (by omega) (hP674.atN (A := (_ :: _ :: _ :: _ :: _ :: _ :: Y674)) hw) hP674.len (by omega); rw [e7] at this; exact this.mono fun e w' ⟨q_, m_, c_, Y_, q2_, m2_, c2_, X_, he, h1, h2, hb, hY⟩ => ⟨_, _, he, ⟨q_, m_, c_, Y_, q2_, m2_, c2_, X_, rfl, rfl, h1, h2⟩, hw.joinT hb hY 6⟩) ?_)))))))))))))
    rintro v679 L679 ⟨q679, m679, c679, Y679, p679, k679, d679, Yx679, rfl, rfl, hO679, hP679⟩
    have hm679 := hO679.len
    have hn679 := hP679.len
    simp only [List.length_cons, List.length_nil] at hm679
    simp only [List.length_cons, List.length_nil] at hn679
    refine mo0 6 [(8, .go (owns 0 0 3))] [3, 5, 22, 23, 25, 27] (fun γ680 => [(29, .int .i64 4)]) (fun γ680 L => bx (γ680 0) (#[.int .i64 0, .slice q679 m679 c679, .slice p679 k679 d679]) 27 :: L) (fun γ680 => on_ (ds_ (sq_ (ao_ (qo0 5 [(3, .go (owns 5 0 7)), (4, .go (owns 4 0 3))] [25, 27, 29] [(170, .bool true), (171, .int .i64 ((otV now o.on o.time))), (172, .agg #[.int .i64 o.kind, .int .i64 o.vcpu, .int .i64 o.al.vcpu, .int .i64 o.al.port, .int .i64 o.al.every, .int .i64 o.time, .bool o.on]), (173, .agg #[.int .i64 now, .slice q5 m5 c5, .slice p5 k5 d5])] (cD (.int .i64 ((otV now o.on o.time))) Try.call22 (fun w hw => ot_t o now q5 m5 c5 ((shT ts)) p5 k5 d5 ((shR rs)) w hn0 hn1) (qo 14 [(6, .yes)] [] [(188, .bool true)] ([((otV now o.on o.time) : Int) = ((otV now o.on o.time) : Int)]) (al1 rfl) (qo0 1 [] [] [(4, .bool true)] (on_ (ds_ (rt ([]) (.bool true) ?_)))))))))))
    exact fun w' hw => ⟨rfl, hw.below⟩
end Go.Proofs.Ytdbamgbgnpadjaa

/-! The walker: what a row's inputs are: slices and structs, opened into lists. -/
namespace Go.Proofs.Ytdbamgbgnpadjaa
open Go Go.RowKit

section
variable {H : Type} {enc : TypeId × Value → H} {P : Program} {w : World} {base : Nat} {spare : Nat → Bool} {held : Bool}
theorem spot_none {a : Addr} (h : a.spot = none) : a = ⟨a.block, a.off, none⟩ := by
  cases a
  simp at h
  simp [h]
theorem trod_sv {α : Type} [Enc α] {t e : TypeId} {fuel : Nat} {cs : List Value} {x : DataW H × List MemPlace} {Good : α → Prop} (ht : P.underlying t = some (.slice e)) (hc : P.cellsOf e = Enc.k α)
    (hopen : ∀ (fuel : Nat) (cs : List Value) (x : DataW H × List MemPlace), DataW.trod enc P w base spare held fuel e cs = some x → ∃ a : α, cs = Enc.enc a ∧ Good a) (h : DataW.trod enc P w base spare held fuel t cs = some x) :
    ∃ (p : Option Addr) (n cap : Nat) (l : List α), cs = [.slice p n cap] ∧ Sv w p l ∧ n = l.length ∧ n ≤ cap ∧ cap ≤ maxLen ∧ ∀ y ∈ l, Good y := by
  rcases Deep.open_slice ht h with ⟨hcs, _⟩ | ⟨a, len, cap, m, n', D, Pl, hcs, _, hle, hmx, hm, _, hi⟩
  · exact ⟨none, 0, 0, [], hcs, Sv.nil, rfl, Nat.le_refl _, Nat.zero_le _, fun y hy => by cases hy⟩
  · have key : ∀ i, i < len → ∃ y : α, w.cells? base (a.add (i * Enc.k α)) (Enc.k α) = some (Enc.enc y) ∧ Good y := fun i hin => by
      have him : i < m := by rw [hm]; split <;> omega
      obtain ⟨cs', h1, h2⟩ := hi i him
      obtain ⟨y, rfl, hy⟩ := hopen _ _ _ h2
      rw [hc] at h1
      exact ⟨y, h1, hy⟩
    rcases Nat.eq_zero_or_pos len with h0 | h0
    · subst h0
      exact ⟨some a, 0, cap, [], hcs, Sv.nil, rfl, hle, hmx, fun y hy => by cases hy⟩
    · obtain ⟨y0, hy0, _⟩ := key 0 h0
      haveI : Inhabited α := ⟨y0⟩
      obtain ⟨f, hf⟩ := Deep.choose_lt key
      obtain ⟨_, _, hcell⟩ := World.cells?_some hy0
      have h00 := hcell 0 Enc.pos
      have hlen0 : 0 < (Enc.enc y0).length := by rw [Enc.len]; exact Enc.pos
      rw [List.getElem?_eq_getElem hlen0, Nat.zero_mul, show (a.add 0).add 0 = a by simp [Addr.add]] at h00
      have hsp := spot_none (World.cell?_spot h00)
      refine ⟨some a, len, cap, (List.range len).map f, hcs, ⟨fun _ => ⟨a.block, a.off, by rw [← hsp]⟩, fun b o hbo i hil => ?_⟩, by simp, hle, hmx, fun y hy => ?_⟩
      · have hil' : i < len := by simpa using hil
        obtain ⟨_, _, hc2⟩ := World.cells?_some (hf i hil').1
        have ha : a = ⟨b, o, none⟩ := by simpa using hbo
        subst ha
        intro j v hj
        have hjk : j < Enc.k α := by rw [← Enc.len (f i)]; have := (List.getElem?_eq_some_iff.1 hj).1; simpa using this
        have h3 := hc2 j hjk
        rw [Deep.add_add] at h3
        have h4 : (Enc.enc (f i))[j]? = some v := by simpa using hj
        rw [h4] at h3
        have h5 : (⟨b, o, none⟩ : Addr).add (i * Enc.k α + j) = ⟨b, o + i * Enc.k α + j, none⟩ := by
          unfold Addr.add; split <;> simp_all <;> omega
        rw [h5] at h3
        exact h3
      · obtain ⟨i, hir, rfl⟩ := List.mem_map.1 hy
        exact (hf i (List.mem_range.1 hir)).2
end
end Go.Proofs.Ytdbamgbgnpadjaa

/-! Chapter 18: what the rows' inputs are. -/
namespace Go.Proofs.Ytdbamgbgnpadjaa
open Go Go.RowKit Go.ChangeShapes Go.WideShapes

section
variable {H : Type} {enc : TypeId × Value → H} {w : World} {base : Nat} {spare : Nat → Bool} {held : Bool}
theorem cIntT : Try.prog.cellsOf 3 = 1 := by kernel_rfl
theorem cI64T : Try.prog.cellsOf 2 = 1 := by kernel_rfl
theorem cBoolT : Try.prog.cellsOf 4 = 1 := by kernel_rfl
theorem cWheel : Try.prog.cellsOf 24 = 2 := by kernel_rfl
theorem cTims : Try.prog.cellsOf 22 = 1 := by kernel_rfl
theorem cAlms : Try.prog.cellsOf 25 = 1 := by kernel_rfl
theorem cAlarms : Try.prog.cellsOf 27 = 3 := by kernel_rfl
theorem cOp8 : Try.prog.cellsOf 58 = 7 := by kernel_rfl
theorem list2V {α : Type} {cs : List α} (h : cs.length = 2) : ∃ c0 c1, cs = [c0, c1] := by
  match cs, h with
  | [c0, c1], _ => exact ⟨c0, c1, rfl⟩
theorem list3V {α : Type} {cs : List α} (h : cs.length = 3) : ∃ c0 c1 c2, cs = [c0, c1, c2] := by
  match cs, h with
  | [c0, c1, c2], _ => exact ⟨c0, c1, c2, rfl⟩
theorem list5V {α : Type} {cs : List α} (h : cs.length = 5) : ∃ c0 c1 c2 c3 c4, cs = [c0, c1, c2, c3, c4] := by
  match cs, h with
  | [c0, c1, c2, c3, c4], _ => exact ⟨c0, c1, c2, c3, c4, rfl⟩
theorem list7V {α : Type} {cs : List α} (h : cs.length = 7) : ∃ c0 c1 c2 c3 c4 c5 c6, cs = [c0, c1, c2, c3, c4, c5, c6] := by
  match cs, h with
  | [c0, c1, c2, c3, c4, c5, c6], _ => exact ⟨c0, c1, c2, c3, c4, c5, c6, rfl⟩
theorem timer_open_cells : Try.prog.cellsOf 88 = 2 := by kernel_rfl
theorem timer_open_list {α : Type} {cs : List α} (h : cs.length = 2) : ∃ c0 c1, cs = [c0, c1] := by
  match cs, h with
  | [c0, c1], _ => exact ⟨c0, c1, rfl⟩
theorem timer_open {fuel : Nat} {cs : List Value} {x : DataW H × List MemPlace} (h : DataW.trod enc Try.prog w base spare held fuel 88 cs = some x) : ∃ a : Tim, cs = Enc.enc a ∧ True := by
  obtain ⟨xs, n, _, rfl, hl, hlen, hf⟩ := DataW.trod_struct Try.underlying88 h
  rw [timer_open_cells] at hl
  obtain ⟨c0, c1, rfl⟩ := timer_open_list hl
  obtain ⟨y0, y1, rfl⟩ := timer_open_list hlen
  have h0 : DataW.trod enc Try.prog w base spare held n 3 (([c0, c1].drop 0).take (Try.prog.cellsOf 3)) = some y0 := hf 0 _ rfl
  have h1 : DataW.trod enc Try.prog w base spare held n 2 (([c0, c1].drop 1).take (Try.prog.cellsOf 2)) = some y1 := hf 1 _ rfl
  clear hf hl hlen h
  rw [cIntT] at h0
  rw [cI64T] at h1
  simp only [List.drop_zero, List.take_succ_cons, List.take_zero, List.drop_succ_cons] at h0 h1
  obtain ⟨v0, e0, _, _⟩ := DataW.trod_int Try.underlying3 h0
  obtain ⟨v1, e1, _, _⟩ := DataW.trod_int Try.underlying2 h1
  simp only [List.cons.injEq, and_true] at e0 e1
  subst e0; subst e1
  exact ⟨⟨v0, v1⟩, rfl, trivial⟩
theorem alarm_open_cells : Try.prog.cellsOf 47 = 3 := by kernel_rfl
theorem alarm_open_list {α : Type} {cs : List α} (h : cs.length = 3) : ∃ c0 c1 c2, cs = [c0, c1, c2] := by
  match cs, h with
  | [c0, c1, c2], _ => exact ⟨c0, c1, c2, rfl⟩
theorem alarm_open {fuel : Nat} {cs : List Value} {x : DataW H × List MemPlace} (h : DataW.trod enc Try.prog w base spare held fuel 47 cs = some x) : ∃ a : Alm, cs = Enc.enc a ∧ True := by
  obtain ⟨xs, n, _, rfl, hl, hlen, hf⟩ := DataW.trod_struct Try.underlying47 h
  rw [alarm_open_cells] at hl
  obtain ⟨c0, c1, c2, rfl⟩ := alarm_open_list hl
  obtain ⟨y0, y1, y2, rfl⟩ := alarm_open_list hlen
  have h0 : DataW.trod enc Try.prog w base spare held n 3 (([c0, c1, c2].drop 0).take (Try.prog.cellsOf 3)) = some y0 := hf 0 _ rfl
  have h1 : DataW.trod enc Try.prog w base spare held n 3 (([c0, c1, c2].drop 1).take (Try.prog.cellsOf 3)) = some y1 := hf 1 _ rfl
  have h2 : DataW.trod enc Try.prog w base spare held n 2 (([c0, c1, c2].drop 2).take (Try.prog.cellsOf 2)) = some y2 := hf 2 _ rfl
  clear hf hl hlen h
  rw [cIntT] at h0 h1
  rw [cI64T] at h2
  simp only [List.drop_zero, List.take_succ_cons, List.take_zero, List.drop_succ_cons] at h0 h1 h2
  obtain ⟨v0, e0, _, _⟩ := DataW.trod_int Try.underlying3 h0
  obtain ⟨v1, e1, _, _⟩ := DataW.trod_int Try.underlying3 h1
  obtain ⟨v2, e2, _, _⟩ := DataW.trod_int Try.underlying2 h2
  simp only [List.cons.injEq, and_true] at e0 e1 e2
  subst e0; subst e1; subst e2
  exact ⟨⟨v0, v1, v2⟩, rfl, trivial⟩
set_option maxRecDepth 100000 in
theorem alarms_open {v : Value} {d : DataW H} {pl : List MemPlace} (hv : Value.okWide Try.prog w .any base 27 v) (h : DataW.Trod enc Try.prog w 0 spare held 27 v d pl) :
    ∃ (now : Int) (p : Option Addr) (n cap : Nat) (ts : List Tim) (pa : Option Addr) (na ca : Nat) (rs : List Alm), v = .agg #[.int .i64 now, .slice p n cap, .slice pa na ca] ∧ (Sv w p ts ∧ n = ts.length ∧ n ≤ cap ∧ cap ≤ 9223372036854775807) ∧ (Sv w pa rs ∧ na = rs.length ∧ na ≤ ca ∧ ca ≤ 9223372036854775807) := by
  obtain ⟨cs, rfl, hsz⟩ := okWide_struct Try.underlying27 hv
  obtain ⟨fuel, hf⟩ := h
  obtain ⟨xs, n, _, _, hl, hlen, hf⟩ := DataW.trod_struct Try.underlying27 hf
  obtain ⟨y0, y1, rfl⟩ := list2V hlen
  have h0 : DataW.trod enc Try.prog w 0 spare held n 24 ((((Value.agg cs).cells.toList).drop 0).take (Try.prog.cellsOf 24)) = some y0 := hf 0 _ rfl
  have h1 : DataW.trod enc Try.prog w 0 spare held n 25 ((((Value.agg cs).cells.toList).drop 2).take (Try.prog.cellsOf 25)) = some y1 := hf 1 _ rfl
  rw [cAlarms] at hl
  obtain ⟨c0, c1, c2, hc0⟩ := list3V hl
  rw [hc0, cWheel] at h0
  rw [hc0, cAlms] at h1
  simp only [List.drop_zero, List.take_succ_cons, List.take_zero, List.drop_succ_cons] at h0 h1
  obtain ⟨xs2, n2, _, rfl, hl2, hlen2, hf2⟩ := DataW.trod_struct Try.underlying24 h0
  obtain ⟨z0, z1, rfl⟩ := list2V hlen2
  have g0 : DataW.trod enc Try.prog w 0 spare held n2 2 (([c0, c1].drop 0).take (Try.prog.cellsOf 2)) = some z0 := hf2 0 _ rfl
  have g1 : DataW.trod enc Try.prog w 0 spare held n2 22 (([c0, c1].drop 1).take (Try.prog.cellsOf 22)) = some z1 := hf2 1 _ rfl
  rw [cI64T] at g0
  rw [cTims] at g1
  simp only [List.drop_zero, List.take_succ_cons, List.take_zero, List.drop_succ_cons] at g0 g1
  obtain ⟨a, ea, _, _⟩ := DataW.trod_int Try.underlying2 g0
  obtain ⟨q, m, capv, l2, he2, hs2, hm, hle2, hmx2, _⟩ := trod_sv (Good := fun _ => True) Try.underlying22 timer_open_cells (fun _ _ _ h => timer_open h) g1
  obtain ⟨q3, m3, capv3, l3, he3, hs3, hm3, hle3, hmx3, _⟩ := trod_sv (Good := fun _ => True) Try.underlying25 alarm_open_cells (fun _ _ _ h => alarm_open h) h1
  simp only [List.cons.injEq, and_true] at ea he2 he3
  subst ea; subst he2; subst he3
  refine ⟨a, q, m, capv, l2, q3, m3, capv3, l3, ?_, ⟨hs2, hm, hle2, hmx2⟩, hs3, hm3, hle3, hmx3⟩
  congr 1
  exact Array.toList_inj.1 (by simpa [Value.cells] using hc0)
set_option maxRecDepth 100000 in
theorem op8_open {fuel : Nat} {cs : List Value} {x : DataW H × List MemPlace} (h : DataW.trod enc Try.prog w base spare held fuel 58 cs = some x) : ∃ o : OpA8, cs = [.int .i64 o.kind, .int .i64 o.vcpu, .int .i64 o.al.vcpu, .int .i64 o.al.port, .int .i64 o.al.every, .int .i64 o.time, .bool o.on] ∧ True := by
  obtain ⟨xs, n, _, rfl, hl, hlen, hf⟩ := DataW.trod_struct Try.underlying58 h
  rw [cOp8] at hl
  obtain ⟨c0, c1, c2, c3, c4, c5, c6, rfl⟩ := list7V hl
  obtain ⟨y0, y1, y2, y3, y4, rfl⟩ := list5V hlen
  have h0 : DataW.trod enc Try.prog w base spare held n 3 (([c0, c1, c2, c3, c4, c5, c6].drop 0).take (Try.prog.cellsOf 3)) = some y0 := hf 0 _ rfl
  have h1 : DataW.trod enc Try.prog w base spare held n 3 (([c0, c1, c2, c3, c4, c5, c6].drop 1).take (Try.prog.cellsOf 3)) = some y1 := hf 1 _ rfl
  have h2 : DataW.trod enc Try.prog w base spare held n 47 (([c0, c1, c2, c3, c4, c5, c6].drop 2).take (Try.prog.cellsOf 47)) = some y2 := hf 2 _ rfl
  have h3 : DataW.trod enc Try.prog w base spare held n 2 (([c0, c1, c2, c3, c4, c5, c6].drop 5).take (Try.prog.cellsOf 2)) = some y3 := hf 3 _ rfl
  have h4 : DataW.trod enc Try.prog w base spare held n 4 (([c0, c1, c2, c3, c4, c5, c6].drop 6).take (Try.prog.cellsOf 4)) = some y4 := hf 4 _ rfl
  clear hf hl hlen h
  rw [cIntT] at h0 h1
  rw [alarm_open_cells] at h2
  rw [cI64T] at h3
  rw [cBoolT] at h4
  simp only [List.drop_zero, List.take_succ_cons, List.take_zero, List.drop_succ_cons] at h0 h1 h2 h3 h4
  obtain ⟨v0, e0, _, _⟩ := DataW.trod_int Try.underlying3 h0
  obtain ⟨v1, e1, _, _⟩ := DataW.trod_int Try.underlying3 h1
  obtain ⟨x2, e2, _⟩ := alarm_open h2
  obtain ⟨v3, e3, _, _⟩ := DataW.trod_int Try.underlying2 h3
  obtain ⟨v4, e4, _⟩ := DataW.trod_bool Try.underlying4 h4
  have e2' : [c2, c3, c4] = [.int .i64 x2.vcpu, .int .i64 x2.port, .int .i64 x2.every] := e2
  simp only [List.cons.injEq, and_true] at e0 e1 e2' e3 e4
  obtain ⟨ea, eb, ec⟩ := e2'
  subst e0; subst e1; subst ea; subst eb; subst ec; subst e3; subst e4
  exact ⟨⟨v0, v1, x2, v3, v4⟩, rfl, trivial⟩
set_option maxRecDepth 100000 in
theorem oparg_open {v : Value} {d : DataW H} {pl : List MemPlace} (hv : Value.okWide Try.prog w .any base 58 v) (h : DataW.Trod enc Try.prog w 0 spare held 58 v d pl) : ∃ o : OpA8, v = .agg #[.int .i64 o.kind, .int .i64 o.vcpu, .int .i64 o.al.vcpu, .int .i64 o.al.port, .int .i64 o.al.every, .int .i64 o.time, .bool o.on] := by
  obtain ⟨cs, rfl, hsz⟩ := okWide_struct Try.underlying58 hv
  obtain ⟨fuel, hf⟩ := h
  obtain ⟨o, e, _⟩ := op8_open hf
  refine ⟨o, ?_⟩
  congr 1
  exact Array.toList_inj.1 (by simpa [Value.cells] using e)
end
end Go.Proofs.Ytdbamgbgnpadjaa
