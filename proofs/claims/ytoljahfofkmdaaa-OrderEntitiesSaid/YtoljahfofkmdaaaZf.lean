/- Texts of this proof, one behind the other. -/
import Derived.Test.YtoljahfofkmdaaaZc
import Derived.Test.YtoljahfofkmdaaaZd
import Derived.Test.YtoljahfofkmdaaaZe
import Derived.Test.YtoljahfofkmdaaaZa
import Derived.ProofKit
import Derived.Carry
import Derived.Deep.Slices
import Derived.Lib.SmallJoins
import Derived.Test.YtoljahfofkmdaaaProg
/-! The statement OrderEntities, walked. -/
namespace Go.Proofs.Ytoljahfofkmdaaa
open Go Go.RowKit

set_option maxRecDepth 100000 in
theorem ents_law (pr : Option Addr) (nr capr : Nat) (rl : List RowO) (w : World)
 (hrl : Sv w pr rl) (hnr : nr = rl.length) (hbr : nr ≤ 9223372036854775807) (hnr9 : ∀ x ∈ rl, x.Reads w)
 : Calls Try.prog 3 #[.slice pr nr capr] w fun e w' => e = .returned (.bool true) ∧ Below w.heap.size w w' := by
 refine enter (Hs.start w) Try.func3 rfl Try.ntmps3 rfl (sq_ (qa0 [] [0] [] (ds_ (sq_ (sq_ (ao_ (cD (.bool true) Try.call9 (fun w hw => wakes_t w) (qo0 1 [] [0] [(13, .bool false)] (on_ (ds_ (f_ (at_skip (ds_ (sq_ (sq_ (qa0 [] [] [(14, .slice pr nr capr), (15, .int .i64 (nr : Nat)), (16, .int .i64 0)] (ds_ (at_block (at_loop (α := Nat) [14, 15, 16] (fun i => [(14, .slice pr nr capr), (15, .int .i64 (nr : Nat)), (16, .int .i64 (i : Nat))]) (fun i => []) (fun i => i ≤ nr) (fun i => nr - i) 0 (by kernel_rfl) rfl (Nat.zero_le _) ?_)))))))))))))))))))
 rintro i
 intro hi
 refine sq_ ?_
 by_cases q6 : ((i : Nat) : Int) < ((nr : Nat) : Int)
 ·
  refine qa [(0, .yes)] [14, 15, 16] [(17, .bool true)] ([((i : Nat) : Int) < ((nr : Nat) : Int)]) (al1 q6) (ds_ (sq_ (t_ (at_skip (ds_ (sq_ (at_block (sq_ ?_))))))))
  obtain ⟨b9, o9, rfl⟩ := hrl.pos (i := i) (by omega)
  obtain ⟨x11, hx11⟩ := get_some (l := rl) (m := i) (by omega)
  have hrx11 := hnr9 x11 (List.mem_of_getElem? hx11)
  have htsx11 := hrx11.hts
  have hnx11 := hrx11.hn
  have hwsx11 := hrx11.hws
  have hnwx11 := hrx11.hnw
  have halx11 := hrx11.hal
  have hmax11 := hrx11.hma
  refine ma [(1, .at b9 o9 i), (2, .go (outs b9 (o9 + i * 3) [.slice x11.p x11.n x11.cap, .slice x11.pw x11.nw x11.capw, .slice x11.q x11.m x11.capq])), (5, .go (owns 0 0 3))] [14, 15, 16] (fun γ12 => [(3, .int .i64 (i : Nat)), (4, .pointer (some ⟨γ12 0, 0, none⟩))]) (fun γ12 L => bx (γ12 0) (#[.slice x11.p x11.n x11.cap, .slice x11.pw x11.nw x11.capw, .slice x11.q x11.m x11.capq]) 30 :: L) (fun γ12 => [(some ⟨b9, o9, none⟩ : Option Addr) = some ⟨b9, o9, none⟩, (i : Nat) = ((i : Nat) : Int), i < nr] ++ (cellsP w b9 (o9 + i * 3) [.slice x11.p x11.n x11.cap, .slice x11.pw x11.nw x11.capw, .slice x11.q x11.m x11.capq])) (fun γ12 => (alA (al2 rfl (al2 rfl (al1 (by omega)))) (rd_pre (hrl.get hx11) _ rfl))) (fun γ12 => ds_ (sq_ (sq_ ?_)))
  by_cases q14 : ((i : Nat) : Int) = (6 : Int)
  ·
   refine qa [(1, .yes)] [4, 14, 15, 16] [(22, .bool true)] ([((i : Nat) : Int) = (6 : Int)]) (al1 q14) (ds_ (t_ (at_leave _ rfl (ds_ (sq_ (qa0 [] [] [(2, .bool true)] (ds_ (rt ([]) (.bool true) ?_))))))))
   exact fun w' hw => ⟨rfl, hw.below⟩
  ·
   refine qa [(1, .no)] [4, 14, 15, 16] [(22, .bool false)] ([¬ (((i : Nat) : Int) = (6 : Int))]) (al1 q14) (ds_ (f_ (at_skip (ds_ (sq_ ?_)))))
   refine at_any (by kernel_rfl) ?_
   refine any_cutX (V := (List Ob) × (List Ob) × (List Ob) × (List Ob) × (List Ob) × (List Ob) × (List Ob) × (List Ob) × (Nat) × (Nat) × (Nat) × (Nat) × (Nat) × (Nat) × (List IntsA) × (List IntsA) × (Nat) × (Nat) × (Nat) × (Nat) × (Nat) × (Nat) × (Option Addr) × (Option Addr) × (Option Addr) × (Option Addr) × (Option Addr) × (Option Addr) × (Nat → Nat) × (Nat → Nat)) (fun ⟨Ya40, Ya80, Yb40, Yb80, Yc40, Yc80, Yd40, Yd80, ca40, ca80, cb40, cb80, cc_40, cc_80, gl40, gl80, na40, na80, nb40, nb80, nc40, nc80, qa40, qa80, qb40, qb80, qc40, qc80, γ100, γ120⟩ => SlO 67 Ya40 qa40 na40 ca40 (x11.ts.take 17) ∧ SlO 67 Ya80 qa80 na80 ca80 (x11.ts.take 17) ∧ SlO 51 Yb40 qb40 nb40 cb40 (x11.ws.take 17) ∧ SlO 51 Yb80 qb80 nb80 cb80 (x11.ws.take 17) ∧ SlO 40 Yc40 qc40 nc40 cc_40 gl40 ∧ SlO 40 Yc80 qc80 nc80 cc_80 gl80 ∧ GotR 3 Yd40 gl40 ∧ GotR 3 Yd80 gl80 ∧ gl40.map IntsA.l = (shortG (x11.al.map IntsA.l)) ∧ gl80.map IntsA.l = (shortG (x11.al.map IntsA.l))) 0 #[true, true, true, true, true, true, true, true] (fun ⟨Ya40, Ya80, Yb40, Yb80, Yc40, Yc80, Yd40, Yd80, ca40, ca80, cb40, cb80, cc_40, cc_80, gl40, gl80, na40, na80, nb40, nb80, nc40, nc80, qa40, qa80, qb40, qb80, qc40, qc80, γ100, γ120⟩ => [(5, .pointer (some ⟨γ100 0, 0, none⟩)), (6, .pointer (some ⟨γ120 0, 0, none⟩)), (14, .slice (some ⟨b9, o9, none⟩) nr capr), (15, .int .i64 (nr : Nat)), (16, .int .i64 (i : Nat))]) (fun ⟨Ya40, Ya80, Yb40, Yb80, Yc40, Yc80, Yd40, Yd80, ca40, ca80, cb40, cb80, cc_40, cc_80, gl40, gl80, na40, na80, nb40, nb80, nc40, nc80, qa40, qa80, qb40, qb80, qc40, qc80, γ100, γ120⟩ => bx (γ120 0) (#[.slice qa80 na80 ca80, .slice qb80 nb80 cb80, .slice qc80 nc80 cc_80]) 30 :: bx (γ100 0) (#[.slice qa40 na40 ca40, .slice qb40 nb40 cb40, .slice qc40 nc40 cc_40]) 30 :: bx (γ12 0) (#[.slice x11.p x11.n x11.cap, .slice x11.pw x11.nw x11.capw, .slice x11.q x11.m x11.capq]) 30 :: (Ya40 ++ (Ya80 ++ (Yb40 ++ (Yb80 ++ (Yc40 ++ (Yc80 ++ (Yd40 ++ (Yd80 ++ []))))))))) ?_ (fun hmx29 => ?_)
   rotate_left
   ·
    refine any_cutX (V := (List Ob) × (List Ob) × (List Ob) × (List Ob) × (List Ob) × (List Ob) × (List Ob) × (List Ob) × (Nat) × (Nat) × (Nat) × (Nat) × (Nat) × (Nat) × (List IntsA) × (List IntsA) × (Nat) × (Nat) × (Nat) × (Nat) × (Nat) × (Nat) × (Option Addr) × (Option Addr) × (Option Addr) × (Option Addr) × (Option Addr) × (Option Addr) × (Nat → Nat) × (Nat → Nat)) (fun ⟨Ya40, Ya80, Yb40, Yb80, Yc40, Yc80, Yd40, Yd80, ca40, ca80, cb40, cb80, cc_40, cc_80, gl40, gl80, na40, na80, nb40, nb80, nc40, nc80, qa40, qa80, qb40, qb80, qc40, qc80, γ100, γ120⟩ => SlO 67 Ya40 qa40 na40 ca40 (x11.ts.take 17) ∧ SlO 67 Ya80 qa80 na80 ca80 (x11.ts.take 17) ∧ SlO 51 Yb40 qb40 nb40 cb40 (x11.ws.take 17) ∧ SlO 51 Yb80 qb80 nb80 cb80 (x11.ws.take 17) ∧ SlO 40 Yc40 qc40 nc40 cc_40 gl40 ∧ SlO 40 Yc80 qc80 nc80 cc_80 gl80 ∧ GotR 3 Yd40 gl40 ∧ GotR 3 Yd80 gl80 ∧ gl40.map IntsA.l = (shortG (x11.al.map IntsA.l)) ∧ gl80.map IntsA.l = (shortG (x11.al.map IntsA.l))) 1 #[true, true, true, true, true, true, true, false] (fun ⟨Ya40, Ya80, Yb40, Yb80, Yc40, Yc80, Yd40, Yd80, ca40, ca80, cb40, cb80, cc_40, cc_80, gl40, gl80, na40, na80, nb40, nb80, nc40, nc80, qa40, qa80, qb40, qb80, qc40, qc80, γ100, γ120⟩ => [(5, .pointer (some ⟨γ100 0, 0, none⟩)), (6, .pointer (some ⟨γ120 0, 0, none⟩)), (14, .slice (some ⟨b9, o9, none⟩) nr capr), (15, .int .i64 (nr : Nat)), (16, .int .i64 (i : Nat)), (26, .agg #[.slice qa80 na80 ca80, .slice qb80 nb80 cb80, .slice qc80 nc80 cc_80])]) (fun ⟨Ya40, Ya80, Yb40, Yb80, Yc40, Yc80, Yd40, Yd80, ca40, ca80, cb40, cb80, cc_40, cc_80, gl40, gl80, na40, na80, nb40, nb80, nc40, nc80, qa40, qa80, qb40, qb80, qc40, qc80, γ100, γ120⟩ => bx (γ120 0) (#[.slice none 0 0, .slice none 0 0, .slice none 0 0]) 30 :: bx (γ100 0) (#[.slice qa40 na40 ca40, .slice qb40 nb40 cb40, .slice qc40 nc40 cc_40]) 30 :: bx (γ12 0) (#[.slice x11.p x11.n x11.cap, .slice x11.pw x11.nw x11.capw, .slice x11.q x11.m x11.capq]) 30 :: (Ya40 ++ (Ya80 ++ (Yb40 ++ (Yb80 ++ (Yc40 ++ (Yc80 ++ (Yd40 ++ (Yd80 ++ []))))))))) ?_ (fun hmx28 => ?_)
    ·
     rintro ⟨Ya40, Ya80, Yb40, Yb80, Yc40, Yc80, Yd40, Yd80, ca40, ca80, cb40, cb80, cc_40, cc_80, gl40, gl80, na40, na80, nb40, nb80, nc40, nc80, qa40, qa80, qb40, qb80, qc40, qc80, γ100, γ120⟩ ⟨hA40, hA80, hB40, hB80, hC40, hC80, hG40, hG80, hV40, hV80⟩
     refine a1 7 rfl ?_
     refine mo0 1 [(7, .go (owns 0 0 3))] [5, 6, 14, 15, 16] (fun _ => []) (fun _ L => (L.set 0 (bx (γ120 0) (#[.slice qa80 na80 ca80, .slice qb80 nb80 cb80, .slice qc80 nc80 cc_80]) 30))) (fun _ => ?_)
     refine od_ ?_
     exact wk (hmx29 (Ya40, Ya80, Yb40, Yb80, Yc40, Yc80, Yd40, Yd80, ca40, ca80, cb40, cb80, cc_40, cc_80, gl40, gl80, na40, na80, nb40, nb80, nc40, nc80, qa40, qa80, qb40, qb80, qc40, qc80, γ100, γ120) ⟨hA40, hA80, hB40, hB80, hC40, hC80, hG40, hG80, hV40, hV80⟩) [5, 6, 14, 15, 16] [[_], [_], [_], _, _, _, _, _, _, _, _] [0, 1, 2, 3, 4, 5, 6, 7, 8, 9, 10] rfl rfl
    refine any_cutX (V := (List Ob) × (List Ob) × (List Ob) × (List Ob) × (List Ob) × (List Ob) × (List Ob) × (List Ob) × (Nat) × (Nat) × (Nat) × (Nat) × (Nat) × (Nat) × (List IntsA) × (List IntsA) × (Nat) × (Nat) × (Nat) × (Nat) × (Nat) × (Nat) × (Option Addr) × (Option Addr) × (Option Addr) × (Option Addr) × (Option Addr) × (Option Addr) × (Nat → Nat) × (Nat → Nat)) (fun ⟨Ya40, Ya80, Yb40, Yb80, Yc40, Yc80, Yd40, Yd80, ca40, ca80, cb40, cb80, cc_40, cc_80, gl40, gl80, na40, na80, nb40, nb80, nc40, nc80, qa40, qa80, qb40, qb80, qc40, qc80, γ100, γ120⟩ => SlO 67 Ya40 qa40 na40 ca40 (x11.ts.take 17) ∧ SlO 67 Ya80 qa80 na80 ca80 (x11.ts.take 17) ∧ SlO 51 Yb40 qb40 nb40 cb40 (x11.ws.take 17) ∧ SlO 51 Yb80 qb80 nb80 cb80 (x11.ws.take 17) ∧ SlO 40 Yc40 qc40 nc40 cc_40 gl40 ∧ SlO 40 Yc80 qc80 nc80 cc_80 gl80 ∧ GotR 3 Yd40 gl40 ∧ GotR 3 Yd80 gl80 ∧ gl40.map IntsA.l = (shortG (x11.al.map IntsA.l)) ∧ gl80.map IntsA.l = (shortG (x11.al.map IntsA.l))) 2 #[true, true, true, true, true, true, false, false] (fun ⟨Ya40, Ya80, Yb40, Yb80, Yc40, Yc80, Yd40, Yd80, ca40, ca80, cb40, cb80, cc_40, cc_80, gl40, gl80, na40, na80, nb40, nb80, nc40, nc80, qa40, qa80, qb40, qb80, qc40, qc80, γ100, γ120⟩ => [(5, .pointer (some ⟨γ100 0, 0, none⟩)), (6, .pointer (some ⟨γ120 0, 0, none⟩)), (14, .slice (some ⟨b9, o9, none⟩) nr capr), (15, .int .i64 (nr : Nat)), (16, .int .i64 (i : Nat)), (24, .agg #[.slice qa40 na40 ca40, .slice qb40 nb40 cb40, .slice qc40 nc40 cc_40]), (26, .agg #[.slice qa80 na80 ca80, .slice qb80 nb80 cb80, .slice qc80 nc80 cc_80])]) (fun ⟨Ya40, Ya80, Yb40, Yb80, Yc40, Yc80, Yd40, Yd80, ca40, ca80, cb40, cb80, cc_40, cc_80, gl40, gl80, na40, na80, nb40, nb80, nc40, nc80, qa40, qa80, qb40, qb80, qc40, qc80, γ100, γ120⟩ => bx (γ120 0) (#[.slice none 0 0, .slice none 0 0, .slice none 0 0]) 30 :: bx (γ100 0) (#[.slice none 0 0, .slice none 0 0, .slice none 0 0]) 30 :: bx (γ12 0) (#[.slice x11.p x11.n x11.cap, .slice x11.pw x11.nw x11.capw, .slice x11.q x11.m x11.capq]) 30 :: (Ya40 ++ (Ya80 ++ (Yb40 ++ (Yb80 ++ (Yc40 ++ (Yc80 ++ (Yd40 ++ (Yd80 ++ []))))))))) ?_ (fun hmx27 => ?_)
    ·
     rintro ⟨Ya40, Ya80, Yb40, Yb80, Yc40, Yc80, Yd40, Yd80, ca40, ca80, cb40, cb80, cc_40, cc_80, gl40, gl80, na40, na80, nb40, nb80, nc40, nc80, qa40, qa80, qb40, qb80, qc40, qc80, γ100, γ120⟩ ⟨hA40, hA80, hB40, hB80, hC40, hC80, hG40, hG80, hV40, hV80⟩
     refine a1 6 rfl ?_
     refine mo0 1 [(6, .go (owns 1 0 3))] [5, 6, 14, 15, 16, 26] (fun _ => []) (fun _ L => (L.set 1 (bx (γ100 0) (#[.slice qa40 na40 ca40, .slice qb40 nb40 cb40, .slice qc40 nc40 cc_40]) 30))) (fun _ => ?_)
     refine od_ ?_
     exact wk (hmx28 (Ya40, Ya80, Yb40, Yb80, Yc40, Yc80, Yd40, Yd80, ca40, ca80, cb40, cb80, cc_40, cc_80, gl40, gl80, na40, na80, nb40, nb80, nc40, nc80, qa40, qa80, qb40, qb80, qc40, qc80, γ100, γ120) ⟨hA40, hA80, hB40, hB80, hC40, hC80, hG40, hG80, hV40, hV80⟩) [5, 6, 14, 15, 16, 26] [[_], [_], [_], _, _, _, _, _, _, _, _] [0, 1, 2, 3, 4, 5, 6, 7, 8, 9, 10] rfl rfl
    refine any_cutX (V := (List Ob) × (List Ob) × (List Ob) × (List Ob) × (Nat) × (Nat) × (Nat) × (List IntsA) × (Nat) × (Nat) × (Nat) × (Option Addr) × (Option Addr) × (Option Addr) × (Nat → Nat) × (Nat → Nat)) (fun ⟨Ya40, Yb40, Yc40, Yd40, ca40, cb40, cc_40, gl40, na40, nb40, nc40, qa40, qb40, qc40, γ100, γ120⟩ => SlO 67 Ya40 qa40 na40 ca40 (x11.ts.take 17) ∧ SlO 51 Yb40 qb40 nb40 cb40 (x11.ws.take 17) ∧ SlO 40 Yc40 qc40 nc40 cc_40 gl40 ∧ GotR 3 Yd40 gl40 ∧ gl40.map IntsA.l = (shortG (x11.al.map IntsA.l))) 3 #[true, true, true, false, true, true, false, false] (fun ⟨Ya40, Yb40, Yc40, Yd40, ca40, cb40, cc_40, gl40, na40, nb40, nc40, qa40, qb40, qc40, γ100, γ120⟩ => [(5, .pointer (some ⟨γ100 0, 0, none⟩)), (6, .pointer (some ⟨γ120 0, 0, none⟩)), (14, .slice (some ⟨b9, o9, none⟩) nr capr), (15, .int .i64 (nr : Nat)), (16, .int .i64 (i : Nat)), (24, .agg #[.slice qa40 na40 ca40, .slice qb40 nb40 cb40, .slice qc40 nc40 cc_40]), (25, .agg #[.slice x11.p x11.n x11.cap, .slice x11.pw x11.nw x11.capw, .slice x11.q x11.m x11.capq])]) (fun ⟨Ya40, Yb40, Yc40, Yd40, ca40, cb40, cc_40, gl40, na40, nb40, nc40, qa40, qb40, qc40, γ100, γ120⟩ => bx (γ120 0) (#[.slice none 0 0, .slice none 0 0, .slice none 0 0]) 30 :: bx (γ100 0) (#[.slice none 0 0, .slice none 0 0, .slice none 0 0]) 30 :: bx (γ12 0) (#[.slice x11.p x11.n x11.cap, .slice x11.pw x11.nw x11.capw, .slice x11.q x11.m x11.capq]) 30 :: (Ya40 ++ (Yb40 ++ (Yc40 ++ (Yd40 ++ []))))) ?_ (fun hmx26 => ?_)
    ·
     rintro ⟨Ya40, Yb40, Yc40, Yd40, ca40, cb40, cc_40, gl40, na40, nb40, nc40, qa40, qb40, qc40, γ100, γ120⟩ ⟨hA40, hB40, hC40, hG40, hV40⟩
     refine a1 3 rfl ?_
     refine cP (fun v L' => ∃ q1 n1 c1 Y1 q2 n2 c2 Y2 q3 n3 c3 Y3 bl_ Z_, v = .agg #[.slice q1 n1 c1, .slice q2 n2 c2, .slice q3 n3 c3] ∧ L' = List.take 3 (bx (γ120 0) (#[.slice none 0 0, .slice none 0 0, .slice none 0 0]) 30 :: bx (γ100 0) (#[.slice none 0 0, .slice none 0 0, .slice none 0 0]) 30 :: bx (γ12 0) (#[.slice x11.p x11.n x11.cap, .slice x11.pw x11.nw x11.capw, .slice x11.q x11.m x11.capq]) 30 :: (Ya40 ++ (Yb40 ++ (Yc40 ++ (Yd40 ++ []))))) ++ (Y1 ++ (Y2 ++ (Y3 ++ (Z_ ++ List.drop 3 (bx (γ120 0) (#[.slice none 0 0, .slice none 0 0, .slice none 0 0]) 30 :: bx (γ100 0) (#[.slice none 0 0, .slice none 0 0, .slice none 0 0]) 30 :: bx (γ12 0) (#[.slice x11.p x11.n x11.cap, .slice x11.pw x11.nw x11.capw, .slice x11.q x11.m x11.capq]) 30 :: (Ya40 ++ (Yb40 ++ (Yc40 ++ (Yd40 ++ []))))))))) ∧ SlO 67 Y1 q1 n1 c1 (x11.ts.take 17) ∧ SlO 51 Y2 q2 n2 c2 (x11.ws.take 17) ∧ SlO 40 Y3 q3 n3 c3 bl_ ∧ GotR 3 Z_ bl_ ∧ bl_.map IntsA.l = (shortG (x11.al.map IntsA.l))) Try.call10 (fun w hw => (rowshort_t x11.p x11.n x11.cap x11.ts x11.pw x11.nw x11.capw x11.ws x11.q x11.m x11.capq x11.al w (htsx11.kept hw.below) hnx11 hrx11.hcp hrx11.hbg (hwsx11.kept hw.below) hnwx11 hrx11.hcw hrx11.hbw (halx11.kept hw.below) hmax11 hrx11.hcq hrx11.hbq (fun y hy => (hrx11.hnm y hy).kept hw.below)).mono fun e w' ⟨q1, n1, c1, Y1, q2, n2, c2, Y2, q3, n3, c3, Y3, bl_, Z_, he, hA, hB, hC, hG, hV, hb, hY⟩ => ⟨_, _, he, ⟨q1, n1, c1, Y1, q2, n2, c2, Y2, q3, n3, c3, Y3, bl_, Z_, rfl, rfl, hA, hB, hC, hG, hV⟩, hs_re4 (hw.join hb hY 3)⟩) ?_
     rintro v80 L80 ⟨qa80, na80, ca80, Ya80, qb80, nb80, cb80, Yb80, qc80, nc80, cc_80, Yc80, gl80, Yd80, rfl, rfl, hA80, hB80, hC80, hG80, hV80⟩
     refine od_ ?_
     exact wk (hmx27 (Ya40, Ya80, Yb40, Yb80, Yc40, Yc80, Yd40, Yd80, ca40, ca80, cb40, cb80, cc_40, cc_80, gl40, gl80, na40, na80, nb40, nb80, nc40, nc80, qa40, qa80, qb40, qb80, qc40, qc80, γ100, γ120) ⟨hA40, hA80, hB40, hB80, hC40, hC80, hG40, hG80, hV40, hV80⟩) [5, 6, 14, 15, 16, 24, 26] [[_], [_], [_], _, _, _, _, _, _, _, _] [0, 1, 2, 7, 3, 8, 4, 9, 5, 10, 6] rfl rfl
    refine any_cutX (V := (List Ob) × (List Ob) × (List Ob) × (List Ob) × (List Ob) × (List Ob) × (List Ob) × (List Ob) × (Nat) × (Nat) × (Nat) × (Nat) × (Nat) × (Nat) × (List IntsA) × (List IntsA) × (Nat) × (Nat) × (Nat) × (Nat) × (Nat) × (Nat) × (Option Addr) × (Option Addr) × (Option Addr) × (Option Addr) × (Option Addr) × (Option Addr) × (Nat → Nat)) (fun ⟨Ya40, Ya80, Yb40, Yb80, Yc40, Yc80, Yd40, Yd80, ca40, ca80, cb40, cb80, cc_40, cc_80, gl40, gl80, na40, na80, nb40, nb80, nc40, nc80, qa40, qa80, qb40, qb80, qc40, qc80, γ120⟩ => SlO 67 Ya40 qa40 na40 ca40 (x11.ts.take 17) ∧ SlO 67 Ya80 qa80 na80 ca80 (x11.ts.take 17) ∧ SlO 51 Yb40 qb40 nb40 cb40 (x11.ws.take 17) ∧ SlO 51 Yb80 qb80 nb80 cb80 (x11.ws.take 17) ∧ SlO 40 Yc40 qc40 nc40 cc_40 gl40 ∧ SlO 40 Yc80 qc80 nc80 cc_80 gl80 ∧ GotR 3 Yd40 gl40 ∧ GotR 3 Yd80 gl80 ∧ gl40.map IntsA.l = (shortG (x11.al.map IntsA.l)) ∧ gl80.map IntsA.l = (shortG (x11.al.map IntsA.l))) 3 #[true, true, true, true, false, true, false, false] (fun ⟨Ya40, Ya80, Yb40, Yb80, Yc40, Yc80, Yd40, Yd80, ca40, ca80, cb40, cb80, cc_40, cc_80, gl40, gl80, na40, na80, nb40, nb80, nc40, nc80, qa40, qa80, qb40, qb80, qc40, qc80, γ120⟩ => [(6, .pointer (some ⟨γ120 0, 0, none⟩)), (14, .slice (some ⟨b9, o9, none⟩) nr capr), (15, .int .i64 (nr : Nat)), (16, .int .i64 (i : Nat)), (24, .agg #[.slice qa40 na40 ca40, .slice qb40 nb40 cb40, .slice qc40 nc40 cc_40]), (26, .agg #[.slice qa80 na80 ca80, .slice qb80 nb80 cb80, .slice qc80 nc80 cc_80])]) (fun ⟨Ya40, Ya80, Yb40, Yb80, Yc40, Yc80, Yd40, Yd80, ca40, ca80, cb40, cb80, cc_40, cc_80, gl40, gl80, na40, na80, nb40, nb80, nc40, nc80, qa40, qa80, qb40, qb80, qc40, qc80, γ120⟩ => bx (γ120 0) (#[.slice none 0 0, .slice none 0 0, .slice none 0 0]) 30 :: bx (γ12 0) (#[.slice x11.p x11.n x11.cap, .slice x11.pw x11.nw x11.capw, .slice x11.q x11.m x11.capq]) 30 :: (Ya40 ++ (Ya80 ++ (Yb40 ++ (Yb80 ++ (Yc40 ++ (Yc80 ++ (Yd40 ++ (Yd80 ++ []))))))))) ?_ (fun hmx25 => ?_)
    ·
     rintro ⟨Ya40, Ya80, Yb40, Yb80, Yc40, Yc80, Yd40, Yd80, ca40, ca80, cb40, cb80, cc_40, cc_80, gl40, gl80, na40, na80, nb40, nb80, nc40, nc80, qa40, qa80, qb40, qb80, qc40, qc80, γ120⟩ ⟨hA40, hA80, hB40, hB80, hC40, hC80, hG40, hG80, hV40, hV80⟩
     refine a1 4 rfl ?_
     refine mo0 1 [] [6, 14, 15, 16, 24, 26] (fun γ100 => [(5, .pointer (some ⟨γ100 0, 0, none⟩))]) (fun γ100 L => bx (γ100 0) (#[.slice none 0 0, .slice none 0 0, .slice none 0 0]) 30 :: L) (fun γ100 => ?_)
     refine od_ ?_
     exact wk (hmx27 (Ya40, Ya80, Yb40, Yb80, Yc40, Yc80, Yd40, Yd80, ca40, ca80, cb40, cb80, cc_40, cc_80, gl40, gl80, na40, na80, nb40, nb80, nc40, nc80, qa40, qa80, qb40, qb80, qc40, qc80, γ100, γ120) ⟨hA40, hA80, hB40, hB80, hC40, hC80, hG40, hG80, hV40, hV80⟩) [5, 6, 14, 15, 16, 24, 26] [[_], [_], [_], _, _, _, _, _, _, _, _] [1, 0, 2, 3, 4, 5, 6, 7, 8, 9, 10] rfl rfl
    refine any_cutX (V := (List Ob) × (List Ob) × (List Ob) × (List Ob) × (List Ob) × (List Ob) × (List Ob) × (List Ob) × (Nat) × (Nat) × (Nat) × (Nat) × (Nat) × (Nat) × (List IntsA) × (List IntsA) × (Nat) × (Nat) × (Nat) × (Nat) × (Nat) × (Nat) × (Option Addr) × (Option Addr) × (Option Addr) × (Option Addr) × (Option Addr) × (Option Addr) × (Nat → Nat)) (fun ⟨Ya40, Ya80, Yb40, Yb80, Yc40, Yc80, Yd40, Yd80, ca40, ca80, cb40, cb80, cc_40, cc_80, gl40, gl80, na40, na80, nb40, nb80, nc40, nc80, qa40, qa80, qb40, qb80, qc40, qc80, γ100⟩ => SlO 67 Ya40 qa40 na40 ca40 (x11.ts.take 17) ∧ SlO 67 Ya80 qa80 na80 ca80 (x11.ts.take 17) ∧ SlO 51 Yb40 qb40 nb40 cb40 (x11.ws.take 17) ∧ SlO 51 Yb80 qb80 nb80 cb80 (x11.ws.take 17) ∧ SlO 40 Yc40 qc40 nc40 cc_40 gl40 ∧ SlO 40 Yc80 qc80 nc80 cc_80 gl80 ∧ GotR 3 Yd40 gl40 ∧ GotR 3 Yd80 gl80 ∧ gl40.map IntsA.l = (shortG (x11.al.map IntsA.l)) ∧ gl80.map IntsA.l = (shortG (x11.al.map IntsA.l))) 3 #[true, true, true, true, true, false, false, false] (fun ⟨Ya40, Ya80, Yb40, Yb80, Yc40, Yc80, Yd40, Yd80, ca40, ca80, cb40, cb80, cc_40, cc_80, gl40, gl80, na40, na80, nb40, nb80, nc40, nc80, qa40, qa80, qb40, qb80, qc40, qc80, γ100⟩ => [(5, .pointer (some ⟨γ100 0, 0, none⟩)), (14, .slice (some ⟨b9, o9, none⟩) nr capr), (15, .int .i64 (nr : Nat)), (16, .int .i64 (i : Nat)), (24, .agg #[.slice qa40 na40 ca40, .slice qb40 nb40 cb40, .slice qc40 nc40 cc_40]), (26, .agg #[.slice qa80 na80 ca80, .slice qb80 nb80 cb80, .slice qc80 nc80 cc_80])]) (fun ⟨Ya40, Ya80, Yb40, Yb80, Yc40, Yc80, Yd40, Yd80, ca40, ca80, cb40, cb80, cc_40, cc_80, gl40, gl80, na40, na80, nb40, nb80, nc40, nc80, qa40, qa80, qb40, qb80, qc40, qc80, γ100⟩ => bx (γ100 0) (#[.slice none 0 0, .slice none 0 0, .slice none 0 0]) 30 :: bx (γ12 0) (#[.slice x11.p x11.n x11.cap, .slice x11.pw x11.nw x11.capw, .slice x11.q x11.m x11.capq]) 30 :: (Ya40 ++ (Ya80 ++ (Yb40 ++ (Yb80 ++ (Yc40 ++ (Yc80 ++ (Yd40 ++ (Yd80 ++ []))))))))) ?_ (fun hmx24 => ?_)
    ·
     rintro ⟨Ya40, Ya80, Yb40, Yb80, Yc40, Yc80, Yd40, Yd80, ca40, ca80, cb40, cb80, cc_40, cc_80, gl40, gl80, na40, na80, nb40, nb80, nc40, nc80, qa40, qa80, qb40, qb80, qc40, qc80, γ100⟩ ⟨hA40, hA80, hB40, hB80, hC40, hC80, hG40, hG80, hV40, hV80⟩
     refine a1 5 rfl ?_
     refine mo0 1 [] [5, 14, 15, 16, 24, 26] (fun γ120 => [(6, .pointer (some ⟨γ120 0, 0, none⟩))]) (fun γ120 L => bx (γ120 0) (#[.slice none 0 0, .slice none 0 0, .slice none 0 0]) 30 :: L) (fun γ120 => ?_)
     refine od_ ?_
     exact wk (hmx27 (Ya40, Ya80, Yb40, Yb80, Yc40, Yc80, Yd40, Yd80, ca40, ca80, cb40, cb80, cc_40, cc_80, gl40, gl80, na40, na80, nb40, nb80, nc40, nc80, qa40, qa80, qb40, qb80, qc40, qc80, γ100, γ120) ⟨hA40, hA80, hB40, hB80, hC40, hC80, hG40, hG80, hV40, hV80⟩) [5, 6, 14, 15, 16, 24, 26] [[_], [_], [_], _, _, _, _, _, _, _, _] [0, 1, 2, 3, 4, 5, 6, 7, 8, 9, 10] rfl rfl
    refine any_cutX (V := (Nat → Nat) × (Nat → Nat)) (fun ⟨γ100, γ120⟩ => True) 4 #[true, false, true, false, true, true, false, false] (fun ⟨γ100, γ120⟩ => [(5, .pointer (some ⟨γ100 0, 0, none⟩)), (6, .pointer (some ⟨γ120 0, 0, none⟩)), (14, .slice (some ⟨b9, o9, none⟩) nr capr), (15, .int .i64 (nr : Nat)), (16, .int .i64 (i : Nat)), (23, .agg #[.slice x11.p x11.n x11.cap, .slice x11.pw x11.nw x11.capw, .slice x11.q x11.m x11.capq]), (25, .agg #[.slice x11.p x11.n x11.cap, .slice x11.pw x11.nw x11.capw, .slice x11.q x11.m x11.capq])]) (fun ⟨γ100, γ120⟩ => [bx (γ120 0) (#[.slice none 0 0, .slice none 0 0, .slice none 0 0]) 30, bx (γ100 0) (#[.slice none 0 0, .slice none 0 0, .slice none 0 0]) 30, bx (γ12 0) (#[.slice x11.p x11.n x11.cap, .slice x11.pw x11.nw x11.capw, .slice x11.q x11.m x11.capq]) 30]) ?_ (fun hmx23 => ?_)
    ·
     rintro ⟨γ100, γ120⟩ _
     refine a1 1 rfl ?_
     refine cP (fun v L' => ∃ q1 n1 c1 Y1 q2 n2 c2 Y2 q3 n3 c3 Y3 bl_ Z_, v = .agg #[.slice q1 n1 c1, .slice q2 n2 c2, .slice q3 n3 c3] ∧ L' = List.take 3 ([bx (γ120 0) (#[.slice none 0 0, .slice none 0 0, .slice none 0 0]) 30, bx (γ100 0) (#[.slice none 0 0, .slice none 0 0, .slice none 0 0]) 30, bx (γ12 0) (#[.slice x11.p x11.n x11.cap, .slice x11.pw x11.nw x11.capw, .slice x11.q x11.m x11.capq]) 30]) ++ (Y1 ++ (Y2 ++ (Y3 ++ (Z_ ++ List.drop 3 ([bx (γ120 0) (#[.slice none 0 0, .slice none 0 0, .slice none 0 0]) 30, bx (γ100 0) (#[.slice none 0 0, .slice none 0 0, .slice none 0 0]) 30, bx (γ12 0) (#[.slice x11.p x11.n x11.cap, .slice x11.pw x11.nw x11.capw, .slice x11.q x11.m x11.capq]) 30]))))) ∧ SlO 67 Y1 q1 n1 c1 (x11.ts.take 17) ∧ SlO 51 Y2 q2 n2 c2 (x11.ws.take 17) ∧ SlO 40 Y3 q3 n3 c3 bl_ ∧ GotR 3 Z_ bl_ ∧ bl_.map IntsA.l = (shortG (x11.al.map IntsA.l))) Try.call10 (fun w hw => (rowshort_t x11.p x11.n x11.cap x11.ts x11.pw x11.nw x11.capw x11.ws x11.q x11.m x11.capq x11.al w (htsx11.kept hw.below) hnx11 hrx11.hcp hrx11.hbg (hwsx11.kept hw.below) hnwx11 hrx11.hcw hrx11.hbw (halx11.kept hw.below) hmax11 hrx11.hcq hrx11.hbq (fun y hy => (hrx11.hnm y hy).kept hw.below)).mono fun e w' ⟨q1, n1, c1, Y1, q2, n2, c2, Y2, q3, n3, c3, Y3, bl_, Z_, he, hA, hB, hC, hG, hV, hb, hY⟩ => ⟨_, _, he, ⟨q1, n1, c1, Y1, q2, n2, c2, Y2, q3, n3, c3, Y3, bl_, Z_, rfl, rfl, hA, hB, hC, hG, hV⟩, hs_re4 (hw.join hb hY 3)⟩) ?_
     rintro v40 L40 ⟨qa40, na40, ca40, Ya40, qb40, nb40, cb40, Yb40, qc40, nc40, cc_40, Yc40, gl40, Yd40, rfl, rfl, hA40, hB40, hC40, hG40, hV40⟩
     refine od_ ?_
     exact wk (hmx26 (Ya40, Yb40, Yc40, Yd40, ca40, cb40, cc_40, gl40, na40, nb40, nc40, qa40, qb40, qc40, γ100, γ120) ⟨hA40, hB40, hC40, hG40, hV40⟩) [5, 6, 14, 15, 16, 24, 25] [[_], [_], [_], _, _, _, _] [0, 1, 2, 3, 4, 5, 6] rfl rfl
    refine any_cutX (V := (List Ob) × (List Ob) × (List Ob) × (List Ob) × (Nat) × (Nat) × (Nat) × (List IntsA) × (Nat) × (Nat) × (Nat) × (Option Addr) × (Option Addr) × (Option Addr) × (Nat → Nat) × (Nat → Nat)) (fun ⟨Ya40, Yb40, Yc40, Yd40, ca40, cb40, cc_40, gl40, na40, nb40, nc40, qa40, qb40, qc40, γ100, γ120⟩ => SlO 67 Ya40 qa40 na40 ca40 (x11.ts.take 17) ∧ SlO 51 Yb40 qb40 nb40 cb40 (x11.ws.take 17) ∧ SlO 40 Yc40 qc40 nc40 cc_40 gl40 ∧ GotR 3 Yd40 gl40 ∧ gl40.map IntsA.l = (shortG (x11.al.map IntsA.l))) 4 #[true, true, false, false, true, true, false, false] (fun ⟨Ya40, Yb40, Yc40, Yd40, ca40, cb40, cc_40, gl40, na40, nb40, nc40, qa40, qb40, qc40, γ100, γ120⟩ => [(4, .pointer (some ⟨γ12 0, 0, none⟩)), (5, .pointer (some ⟨γ100 0, 0, none⟩)), (6, .pointer (some ⟨γ120 0, 0, none⟩)), (14, .slice (some ⟨b9, o9, none⟩) nr capr), (15, .int .i64 (nr : Nat)), (16, .int .i64 (i : Nat)), (24, .agg #[.slice qa40 na40 ca40, .slice qb40 nb40 cb40, .slice qc40 nc40 cc_40])]) (fun ⟨Ya40, Yb40, Yc40, Yd40, ca40, cb40, cc_40, gl40, na40, nb40, nc40, qa40, qb40, qc40, γ100, γ120⟩ => bx (γ120 0) (#[.slice none 0 0, .slice none 0 0, .slice none 0 0]) 30 :: bx (γ100 0) (#[.slice none 0 0, .slice none 0 0, .slice none 0 0]) 30 :: bx (γ12 0) (#[.slice x11.p x11.n x11.cap, .slice x11.pw x11.nw x11.capw, .slice x11.q x11.m x11.capq]) 30 :: (Ya40 ++ (Yb40 ++ (Yc40 ++ (Yd40 ++ []))))) ?_ (fun hmx22 => ?_)
    ·
     rintro ⟨Ya40, Yb40, Yc40, Yd40, ca40, cb40, cc_40, gl40, na40, nb40, nc40, qa40, qb40, qc40, γ100, γ120⟩ ⟨hA40, hB40, hC40, hG40, hV40⟩
     refine a1 2 rfl ?_
     refine qo0 1 [(2, .go (owns 2 0 3))] [5, 6, 14, 15, 16, 24] [(25, .agg #[.slice x11.p x11.n x11.cap, .slice x11.pw x11.nw x11.capw, .slice x11.q x11.m x11.capq])] ?_
     refine od_ ?_
     exact wk (hmx26 (Ya40, Yb40, Yc40, Yd40, ca40, cb40, cc_40, gl40, na40, nb40, nc40, qa40, qb40, qc40, γ100, γ120) ⟨hA40, hB40, hC40, hG40, hV40⟩) [5, 6, 14, 15, 16, 24, 25] [[_], [_], [_], _, _, _, _] [0, 1, 2, 3, 4, 5, 6] rfl rfl
    refine any_cutX (V := (List Ob) × (List Ob) × (List Ob) × (List Ob) × (Nat) × (Nat) × (Nat) × (List IntsA) × (Nat) × (Nat) × (Nat) × (Option Addr) × (Option Addr) × (Option Addr) × (Nat → Nat)) (fun ⟨Ya40, Yb40, Yc40, Yd40, ca40, cb40, cc_40, gl40, na40, nb40, nc40, qa40, qb40, qc40, γ120⟩ => SlO 67 Ya40 qa40 na40 ca40 (x11.ts.take 17) ∧ SlO 51 Yb40 qb40 nb40 cb40 (x11.ws.take 17) ∧ SlO 40 Yc40 qc40 nc40 cc_40 gl40 ∧ GotR 3 Yd40 gl40 ∧ gl40.map IntsA.l = (shortG (x11.al.map IntsA.l))) 4 #[true, true, true, false, false, true, false, false] (fun ⟨Ya40, Yb40, Yc40, Yd40, ca40, cb40, cc_40, gl40, na40, nb40, nc40, qa40, qb40, qc40, γ120⟩ => [(6, .pointer (some ⟨γ120 0, 0, none⟩)), (14, .slice (some ⟨b9, o9, none⟩) nr capr), (15, .int .i64 (nr : Nat)), (16, .int .i64 (i : Nat)), (24, .agg #[.slice qa40 na40 ca40, .slice qb40 nb40 cb40, .slice qc40 nc40 cc_40]), (25, .agg #[.slice x11.p x11.n x11.cap, .slice x11.pw x11.nw x11.capw, .slice x11.q x11.m x11.capq])]) (fun ⟨Ya40, Yb40, Yc40, Yd40, ca40, cb40, cc_40, gl40, na40, nb40, nc40, qa40, qb40, qc40, γ120⟩ => bx (γ120 0) (#[.slice none 0 0, .slice none 0 0, .slice none 0 0]) 30 :: bx (γ12 0) (#[.slice x11.p x11.n x11.cap, .slice x11.pw x11.nw x11.capw, .slice x11.q x11.m x11.capq]) 30 :: (Ya40 ++ (Yb40 ++ (Yc40 ++ (Yd40 ++ []))))) ?_ (fun hmx21 => ?_)
    ·
     rintro ⟨Ya40, Yb40, Yc40, Yd40, ca40, cb40, cc_40, gl40, na40, nb40, nc40, qa40, qb40, qc40, γ120⟩ ⟨hA40, hB40, hC40, hG40, hV40⟩
     refine any_fork [3, 4] (by kernel_rfl) (by simp) (each_cons _ rfl ?_ (each_cons _ rfl ?_ (each_nil)))
     ·
      refine cP (fun v L' => ∃ q1 n1 c1 Y1 q2 n2 c2 Y2 q3 n3 c3 Y3 bl_ Z_, v = .agg #[.slice q1 n1 c1, .slice q2 n2 c2, .slice q3 n3 c3] ∧ L' = List.take 2 (bx (γ120 0) (#[.slice none 0 0, .slice none 0 0, .slice none 0 0]) 30 :: bx (γ12 0) (#[.slice x11.p x11.n x11.cap, .slice x11.pw x11.nw x11.capw, .slice x11.q x11.m x11.capq]) 30 :: (Ya40 ++ (Yb40 ++ (Yc40 ++ (Yd40 ++ []))))) ++ (Y1 ++ (Y2 ++ (Y3 ++ (Z_ ++ List.drop 2 (bx (γ120 0) (#[.slice none 0 0, .slice none 0 0, .slice none 0 0]) 30 :: bx (γ12 0) (#[.slice x11.p x11.n x11.cap, .slice x11.pw x11.nw x11.capw, .slice x11.q x11.m x11.capq]) 30 :: (Ya40 ++ (Yb40 ++ (Yc40 ++ (Yd40 ++ []))))))))) ∧ SlO 67 Y1 q1 n1 c1 (x11.ts.take 17) ∧ SlO 51 Y2 q2 n2 c2 (x11.ws.take 17) ∧ SlO 40 Y3 q3 n3 c3 bl_ ∧ GotR 3 Z_ bl_ ∧ bl_.map IntsA.l = (shortG (x11.al.map IntsA.l))) Try.call10 (fun w hw => (rowshort_t x11.p x11.n x11.cap x11.ts x11.pw x11.nw x11.capw x11.ws x11.q x11.m x11.capq x11.al w (htsx11.kept hw.below) hnx11 hrx11.hcp hrx11.hbg (hwsx11.kept hw.below) hnwx11 hrx11.hcw hrx11.hbw (halx11.kept hw.below) hmax11 hrx11.hcq hrx11.hbq (fun y hy => (hrx11.hnm y hy).kept hw.below)).mono fun e w' ⟨q1, n1, c1, Y1, q2, n2, c2, Y2, q3, n3, c3, Y3, bl_, Z_, he, hA, hB, hC, hG, hV, hb, hY⟩ => ⟨_, _, he, ⟨q1, n1, c1, Y1, q2, n2, c2, Y2, q3, n3, c3, Y3, bl_, Z_, rfl, rfl, hA, hB, hC, hG, hV⟩, hs_re4 (hw.join hb hY 2)⟩) ?_
      rintro v80 L80 ⟨qa80, na80, ca80, Ya80, qb80, nb80, cb80, Yb80, qc80, nc80, cc_80, Yc80, gl80, Yd80, rfl, rfl, hA80, hB80, hC80, hG80, hV80⟩
      refine od_ ?_
      exact wk (hmx25 (Ya40, Ya80, Yb40, Yb80, Yc40, Yc80, Yd40, Yd80, ca40, ca80, cb40, cb80, cc_40, cc_80, gl40, gl80, na40, na80, nb40, nb80, nc40, nc80, qa40, qa80, qb40, qb80, qc40, qc80, γ120) ⟨hA40, hA80, hB40, hB80, hC40, hC80, hG40, hG80, hV40, hV80⟩) [6, 14, 15, 16, 24, 26] [[_], [_], _, _, _, _, _, _, _, _] [0, 1, 6, 2, 7, 3, 8, 4, 9, 5] rfl rfl
     ·
      refine mo0 1 [] [6, 14, 15, 16, 24, 25] (fun γ100 => [(5, .pointer (some ⟨γ100 0, 0, none⟩))]) (fun γ100 L => bx (γ100 0) (#[.slice none 0 0, .slice none 0 0, .slice none 0 0]) 30 :: L) (fun γ100 => ?_)
      refine od_ ?_
      exact wk (hmx26 (Ya40, Yb40, Yc40, Yd40, ca40, cb40, cc_40, gl40, na40, nb40, nc40, qa40, qb40, qc40, γ100, γ120) ⟨hA40, hB40, hC40, hG40, hV40⟩) [5, 6, 14, 15, 16, 24, 25] [[_], [_], [_], _, _, _, _] [1, 0, 2, 3, 4, 5, 6] rfl rfl
    refine any_cutX (V := (List Ob) × (List Ob) × (List Ob) × (List Ob) × (Nat) × (Nat) × (Nat) × (List IntsA) × (Nat) × (Nat) × (Nat) × (Option Addr) × (Option Addr) × (Option Addr) × (Nat → Nat)) (fun ⟨Ya40, Yb40, Yc40, Yd40, ca40, cb40, cc_40, gl40, na40, nb40, nc40, qa40, qb40, qc40, γ100⟩ => SlO 67 Ya40 qa40 na40 ca40 (x11.ts.take 17) ∧ SlO 51 Yb40 qb40 nb40 cb40 (x11.ws.take 17) ∧ SlO 40 Yc40 qc40 nc40 cc_40 gl40 ∧ GotR 3 Yd40 gl40 ∧ gl40.map IntsA.l = (shortG (x11.al.map IntsA.l))) 4 #[true, true, true, false, true, false, false, false] (fun ⟨Ya40, Yb40, Yc40, Yd40, ca40, cb40, cc_40, gl40, na40, nb40, nc40, qa40, qb40, qc40, γ100⟩ => [(5, .pointer (some ⟨γ100 0, 0, none⟩)), (14, .slice (some ⟨b9, o9, none⟩) nr capr), (15, .int .i64 (nr : Nat)), (16, .int .i64 (i : Nat)), (24, .agg #[.slice qa40 na40 ca40, .slice qb40 nb40 cb40, .slice qc40 nc40 cc_40]), (25, .agg #[.slice x11.p x11.n x11.cap, .slice x11.pw x11.nw x11.capw, .slice x11.q x11.m x11.capq])]) (fun ⟨Ya40, Yb40, Yc40, Yd40, ca40, cb40, cc_40, gl40, na40, nb40, nc40, qa40, qb40, qc40, γ100⟩ => bx (γ100 0) (#[.slice none 0 0, .slice none 0 0, .slice none 0 0]) 30 :: bx (γ12 0) (#[.slice x11.p x11.n x11.cap, .slice x11.pw x11.nw x11.capw, .slice x11.q x11.m x11.capq]) 30 :: (Ya40 ++ (Yb40 ++ (Yc40 ++ (Yd40 ++ []))))) ?_ (fun hmx20 => ?_)
    ·
     rintro ⟨Ya40, Yb40, Yc40, Yd40, ca40, cb40, cc_40, gl40, na40, nb40, nc40, qa40, qb40, qc40, γ100⟩ ⟨hA40, hB40, hC40, hG40, hV40⟩
     refine any_fork [3, 5] (by kernel_rfl) (by simp) (each_cons _ rfl ?_ (each_cons _ rfl ?_ (each_nil)))
     ·
      refine cP (fun v L' => ∃ q1 n1 c1 Y1 q2 n2 c2 Y2 q3 n3 c3 Y3 bl_ Z_, v = .agg #[.slice q1 n1 c1, .slice q2 n2 c2, .slice q3 n3 c3] ∧ L' = List.take 2 (bx (γ100 0) (#[.slice none 0 0, .slice none 0 0, .slice none 0 0]) 30 :: bx (γ12 0) (#[.slice x11.p x11.n x11.cap, .slice x11.pw x11.nw x11.capw, .slice x11.q x11.m x11.capq]) 30 :: (Ya40 ++ (Yb40 ++ (Yc40 ++ (Yd40 ++ []))))) ++ (Y1 ++ (Y2 ++ (Y3 ++ (Z_ ++ List.drop 2 (bx (γ100 0) (#[.slice none 0 0, .slice none 0 0, .slice none 0 0]) 30 :: bx (γ12 0) (#[.slice x11.p x11.n x11.cap, .slice x11.pw x11.nw x11.capw, .slice x11.q x11.m x11.capq]) 30 :: (Ya40 ++ (Yb40 ++ (Yc40 ++ (Yd40 ++ []))))))))) ∧ SlO 67 Y1 q1 n1 c1 (x11.ts.take 17) ∧ SlO 51 Y2 q2 n2 c2 (x11.ws.take 17) ∧ SlO 40 Y3 q3 n3 c3 bl_ ∧ GotR 3 Z_ bl_ ∧ bl_.map IntsA.l = (shortG (x11.al.map IntsA.l))) Try.call10 (fun w hw => (rowshort_t x11.p x11.n x11.cap x11.ts x11.pw x11.nw x11.capw x11.ws x11.q x11.m x11.capq x11.al w (htsx11.kept hw.below) hnx11 hrx11.hcp hrx11.hbg (hwsx11.kept hw.below) hnwx11 hrx11.hcw hrx11.hbw (halx11.kept hw.below) hmax11 hrx11.hcq hrx11.hbq (fun y hy => (hrx11.hnm y hy).kept hw.below)).mono fun e w' ⟨q1, n1, c1, Y1, q2, n2, c2, Y2, q3, n3, c3, Y3, bl_, Z_, he, hA, hB, hC, hG, hV, hb, hY⟩ => ⟨_, _, he, ⟨q1, n1, c1, Y1, q2, n2, c2, Y2, q3, n3, c3, Y3, bl_, Z_, rfl, rfl, hA, hB, hC, hG, hV⟩, hs_re4 (hw.join hb hY 2)⟩) ?_
      rintro v80 L80 ⟨qa80, na80, ca80, Ya80, qb80, nb80, cb80, Yb80, qc80, nc80, cc_80, Yc80, gl80, Yd80, rfl, rfl, hA80, hB80, hC80, hG80, hV80⟩
      refine od_ ?_
      exact wk (hmx24 (Ya40, Ya80, Yb40, Yb80, Yc40, Yc80, Yd40, Yd80, ca40, ca80, cb40, cb80, cc_40, cc_80, gl40, gl80, na40, na80, nb40, nb80, nc40, nc80, qa40, qa80, qb40, qb80, qc40, qc80, γ100) ⟨hA40, hA80, hB40, hB80, hC40, hC80, hG40, hG80, hV40, hV80⟩) [5, 14, 15, 16, 24, 26] [[_], [_], _, _, _, _, _, _, _, _] [0, 1, 6, 2, 7, 3, 8, 4, 9, 5] rfl rfl
     ·
      refine mo0 1 [] [5, 14, 15, 16, 24, 25] (fun γ120 => [(6, .pointer (some ⟨γ120 0, 0, none⟩))]) (fun γ120 L => bx (γ120 0) (#[.slice none 0 0, .slice none 0 0, .slice none 0 0]) 30 :: L) (fun γ120 => ?_)
      refine od_ ?_
      exact wk (hmx26 (Ya40, Yb40, Yc40, Yd40, ca40, cb40, cc_40, gl40, na40, nb40, nc40, qa40, qb40, qc40, γ100, γ120) ⟨hA40, hB40, hC40, hG40, hV40⟩) [5, 6, 14, 15, 16, 24, 25] [[_], [_], [_], _, _, _, _] [0, 1, 2, 3, 4, 5, 6] rfl rfl
    refine any_cutX (V := (List Ob) × (List Ob) × (List Ob) × (List Ob) × (List Ob) × (List Ob) × (List Ob) × (List Ob) × (Nat) × (Nat) × (Nat) × (Nat) × (Nat) × (Nat) × (List IntsA) × (List IntsA) × (Nat) × (Nat) × (Nat) × (Nat) × (Nat) × (Nat) × (Option Addr) × (Option Addr) × (Option Addr) × (Option Addr) × (Option Addr) × (Option Addr)) (fun ⟨Ya40, Ya80, Yb40, Yb80, Yc40, Yc80, Yd40, Yd80, ca40, ca80, cb40, cb80, cc_40, cc_80, gl40, gl80, na40, na80, nb40, nb80, nc40, nc80, qa40, qa80, qb40, qb80, qc40, qc80⟩ => SlO 67 Ya40 qa40 na40 ca40 (x11.ts.take 17) ∧ SlO 67 Ya80 qa80 na80 ca80 (x11.ts.take 17) ∧ SlO 51 Yb40 qb40 nb40 cb40 (x11.ws.take 17) ∧ SlO 51 Yb80 qb80 nb80 cb80 (x11.ws.take 17) ∧ SlO 40 Yc40 qc40 nc40 cc_40 gl40 ∧ SlO 40 Yc80 qc80 nc80 cc_80 gl80 ∧ GotR 3 Yd40 gl40 ∧ GotR 3 Yd80 gl80 ∧ gl40.map IntsA.l = (shortG (x11.al.map IntsA.l)) ∧ gl80.map IntsA.l = (shortG (x11.al.map IntsA.l))) 4 #[true, true, true, true, false, false, false, false] (fun ⟨Ya40, Ya80, Yb40, Yb80, Yc40, Yc80, Yd40, Yd80, ca40, ca80, cb40, cb80, cc_40, cc_80, gl40, gl80, na40, na80, nb40, nb80, nc40, nc80, qa40, qa80, qb40, qb80, qc40, qc80⟩ => [(14, .slice (some ⟨b9, o9, none⟩) nr capr), (15, .int .i64 (nr : Nat)), (16, .int .i64 (i : Nat)), (24, .agg #[.slice qa40 na40 ca40, .slice qb40 nb40 cb40, .slice qc40 nc40 cc_40]), (26, .agg #[.slice qa80 na80 ca80, .slice qb80 nb80 cb80, .slice qc80 nc80 cc_80])]) (fun ⟨Ya40, Ya80, Yb40, Yb80, Yc40, Yc80, Yd40, Yd80, ca40, ca80, cb40, cb80, cc_40, cc_80, gl40, gl80, na40, na80, nb40, nb80, nc40, nc80, qa40, qa80, qb40, qb80, qc40, qc80⟩ => bx (γ12 0) (#[.slice x11.p x11.n x11.cap, .slice x11.pw x11.nw x11.capw, .slice x11.q x11.m x11.capq]) 30 :: (Ya40 ++ (Ya80 ++ (Yb40 ++ (Yb80 ++ (Yc40 ++ (Yc80 ++ (Yd40 ++ (Yd80 ++ []))))))))) ?_ (fun hmx19 => ?_)
    ·
     rintro ⟨Ya40, Ya80, Yb40, Yb80, Yc40, Yc80, Yd40, Yd80, ca40, ca80, cb40, cb80, cc_40, cc_80, gl40, gl80, na40, na80, nb40, nb80, nc40, nc80, qa40, qa80, qb40, qb80, qc40, qc80⟩ ⟨hA40, hA80, hB40, hB80, hC40, hC80, hG40, hG80, hV40, hV80⟩
     refine any_fork [4, 5] (by kernel_rfl) (by simp) (each_cons _ rfl ?_ (each_cons _ rfl ?_ (each_nil)))
     ·
      refine mo0 1 [] [14, 15, 16, 24, 26] (fun γ100 => [(5, .pointer (some ⟨γ100 0, 0, none⟩))]) (fun γ100 L => bx (γ100 0) (#[.slice none 0 0, .slice none 0 0, .slice none 0 0]) 30 :: L) (fun γ100 => ?_)
      refine od_ ?_
      exact wk (hmx24 (Ya40, Ya80, Yb40, Yb80, Yc40, Yc80, Yd40, Yd80, ca40, ca80, cb40, cb80, cc_40, cc_80, gl40, gl80, na40, na80, nb40, nb80, nc40, nc80, qa40, qa80, qb40, qb80, qc40, qc80, γ100) ⟨hA40, hA80, hB40, hB80, hC40, hC80, hG40, hG80, hV40, hV80⟩) [5, 14, 15, 16, 24, 26] [[_], [_], _, _, _, _, _, _, _, _] [0, 1, 2, 3, 4, 5, 6, 7, 8, 9] rfl rfl
     ·
      refine mo0 1 [] [14, 15, 16, 24, 26] (fun γ120 => [(6, .pointer (some ⟨γ120 0, 0, none⟩))]) (fun γ120 L => bx (γ120 0) (#[.slice none 0 0, .slice none 0 0, .slice none 0 0]) 30 :: L) (fun γ120 => ?_)
      refine od_ ?_
      exact wk (hmx25 (Ya40, Ya80, Yb40, Yb80, Yc40, Yc80, Yd40, Yd80, ca40, ca80, cb40, cb80, cc_40, cc_80, gl40, gl80, na40, na80, nb40, nb80, nc40, nc80, qa40, qa80, qb40, qb80, qc40, qc80, γ120) ⟨hA40, hA80, hB40, hB80, hC40, hC80, hG40, hG80, hV40, hV80⟩) [6, 14, 15, 16, 24, 26] [[_], [_], _, _, _, _, _, _, _, _] [0, 1, 2, 3, 4, 5, 6, 7, 8, 9] rfl rfl
    refine any_cutX (V := (Nat → Nat) × (Nat → Nat)) (fun ⟨γ100, γ120⟩ => True) 5 #[false, false, true, false, true, true, false, false] (fun ⟨γ100, γ120⟩ => [(4, .pointer (some ⟨γ12 0, 0, none⟩)), (5, .pointer (some ⟨γ100 0, 0, none⟩)), (6, .pointer (some ⟨γ120 0, 0, none⟩)), (14, .slice (some ⟨b9, o9, none⟩) nr capr), (15, .int .i64 (nr : Nat)), (16, .int .i64 (i : Nat)), (25, .agg #[.slice x11.p x11.n x11.cap, .slice x11.pw x11.nw x11.capw, .slice x11.q x11.m x11.capq])]) (fun ⟨γ100, γ120⟩ => [bx (γ120 0) (#[.slice none 0 0, .slice none 0 0, .slice none 0 0]) 30, bx (γ100 0) (#[.slice none 0 0, .slice none 0 0, .slice none 0 0]) 30, bx (γ12 0) (#[.slice x11.p x11.n x11.cap, .slice x11.pw x11.nw x11.capw, .slice x11.q x11.m x11.capq]) 30]) ?_ (fun hmx18 => ?_)
    ·
     rintro ⟨γ100, γ120⟩ _
     refine a1 0 rfl ?_
     refine qo0 1 [(0, .go (owns 2 0 3))] [5, 6, 14, 15, 16, 25] [(23, .agg #[.slice x11.p x11.n x11.cap, .slice x11.pw x11.nw x11.capw, .slice x11.q x11.m x11.capq])] ?_
     refine od_ ?_
     exact wk (hmx23 (γ100, γ120) trivial) [5, 6, 14, 15, 16, 23, 25] [[_], [_], [_]] [0, 1, 2] rfl rfl
    refine any_cutX (V := (Nat → Nat) × (Nat → Nat)) (fun ⟨γ100, γ120⟩ => True) 5 #[true, false, false, false, true, true, false, false] (fun ⟨γ100, γ120⟩ => [(4, .pointer (some ⟨γ12 0, 0, none⟩)), (5, .pointer (some ⟨γ100 0, 0, none⟩)), (6, .pointer (some ⟨γ120 0, 0, none⟩)), (14, .slice (some ⟨b9, o9, none⟩) nr capr), (15, .int .i64 (nr : Nat)), (16, .int .i64 (i : Nat)), (23, .agg #[.slice x11.p x11.n x11.cap, .slice x11.pw x11.nw x11.capw, .slice x11.q x11.m x11.capq])]) (fun ⟨γ100, γ120⟩ => [bx (γ120 0) (#[.slice none 0 0, .slice none 0 0, .slice none 0 0]) 30, bx (γ100 0) (#[.slice none 0 0, .slice none 0 0, .slice none 0 0]) 30, bx (γ12 0) (#[.slice x11.p x11.n x11.cap, .slice x11.pw x11.nw x11.capw, .slice x11.q x11.m x11.capq]) 30]) ?_ (fun hmx17 => ?_)
    ·
     rintro ⟨γ100, γ120⟩ _
     refine any_fork [1, 2] (by kernel_rfl) (by simp) (each_cons _ rfl ?_ (each_cons _ rfl ?_ (each_nil)))
     ·
      refine cP (fun v L' => ∃ q1 n1 c1 Y1 q2 n2 c2 Y2 q3 n3 c3 Y3 bl_ Z_, v = .agg #[.slice q1 n1 c1, .slice q2 n2 c2, .slice q3 n3 c3] ∧ L' = List.take 3 ([bx (γ120 0) (#[.slice none 0 0, .slice none 0 0, .slice none 0 0]) 30, bx (γ100 0) (#[.slice none 0 0, .slice none 0 0, .slice none 0 0]) 30, bx (γ12 0) (#[.slice x11.p x11.n x11.cap, .slice x11.pw x11.nw x11.capw, .slice x11.q x11.m x11.capq]) 30]) ++ (Y1 ++ (Y2 ++ (Y3 ++ (Z_ ++ List.drop 3 ([bx (γ120 0) (#[.slice none 0 0, .slice none 0 0, .slice none 0 0]) 30, bx (γ100 0) (#[.slice none 0 0, .slice none 0 0, .slice none 0 0]) 30, bx (γ12 0) (#[.slice x11.p x11.n x11.cap, .slice x11.pw x11.nw x11.capw, .slice x11.q x11.m x11.capq]) 30]))))) ∧ SlO 67 Y1 q1 n1 c1 (x11.ts.take 17) ∧ SlO 51 Y2 q2 n2 c2 (x11.ws.take 17) ∧ SlO 40 Y3 q3 n3 c3 bl_ ∧ GotR 3 Z_ bl_ ∧ bl_.map IntsA.l = (shortG (x11.al.map IntsA.l))) Try.call10 (fun w hw => (rowshort_t x11.p x11.n x11.cap x11.ts x11.pw x11.nw x11.capw x11.ws x11.q x11.m x11.capq x11.al w (htsx11.kept hw.below) hnx11 hrx11.hcp hrx11.hbg (hwsx11.kept hw.below) hnwx11 hrx11.hcw hrx11.hbw (halx11.kept hw.below) hmax11 hrx11.hcq hrx11.hbq (fun y hy => (hrx11.hnm y hy).kept hw.below)).mono fun e w' ⟨q1, n1, c1, Y1, q2, n2, c2, Y2, q3, n3, c3, Y3, bl_, Z_, he, hA, hB, hC, hG, hV, hb, hY⟩ => ⟨_, _, he, ⟨q1, n1, c1, Y1, q2, n2, c2, Y2, q3, n3, c3, Y3, bl_, Z_, rfl, rfl, hA, hB, hC, hG, hV⟩, hs_re4 (hw.join hb hY 3)⟩) ?_
      rintro v40 L40 ⟨qa40, na40, ca40, Ya40, qb40, nb40, cb40, Yb40, qc40, nc40, cc_40, Yc40, gl40, Yd40, rfl, rfl, hA40, hB40, hC40, hG40, hV40⟩
      refine od_ ?_
      exact wk (hmx22 (Ya40, Yb40, Yc40, Yd40, ca40, cb40, cc_40, gl40, na40, nb40, nc40, qa40, qb40, qc40, γ100, γ120) ⟨hA40, hB40, hC40, hG40, hV40⟩) [4, 5, 6, 14, 15, 16, 24] [[_], [_], [_], _, _, _, _] [0, 1, 2, 3, 4, 5, 6] rfl rfl
     ·
      refine qo0 1 [(2, .go (owns 2 0 3))] [5, 6, 14, 15, 16, 23] [(25, .agg #[.slice x11.p x11.n x11.cap, .slice x11.pw x11.nw x11.capw, .slice x11.q x11.m x11.capq])] ?_
      refine od_ ?_
      exact wk (hmx23 (γ100, γ120) trivial) [5, 6, 14, 15, 16, 23, 25] [[_], [_], [_]] [0, 1, 2] rfl rfl
    refine any_cutX (V := (Nat → Nat)) (fun γ120 => True) 5 #[true, false, true, false, false, true, false, false] (fun γ120 => [(6, .pointer (some ⟨γ120 0, 0, none⟩)), (14, .slice (some ⟨b9, o9, none⟩) nr capr), (15, .int .i64 (nr : Nat)), (16, .int .i64 (i : Nat)), (23, .agg #[.slice x11.p x11.n x11.cap, .slice x11.pw x11.nw x11.capw, .slice x11.q x11.m x11.capq]), (25, .agg #[.slice x11.p x11.n x11.cap, .slice x11.pw x11.nw x11.capw, .slice x11.q x11.m x11.capq])]) (fun γ120 => [bx (γ120 0) (#[.slice none 0 0, .slice none 0 0, .slice none 0 0]) 30, bx (γ12 0) (#[.slice x11.p x11.n x11.cap, .slice x11.pw x11.nw x11.capw, .slice x11.q x11.m x11.capq]) 30]) ?_ (fun hmx16 => ?_)
    ·
     rintro γ120 _
     refine any_fork [1, 4] (by kernel_rfl) (by simp) (each_cons _ rfl ?_ (each_cons _ rfl ?_ (each_nil)))
     ·
      refine cP (fun v L' => ∃ q1 n1 c1 Y1 q2 n2 c2 Y2 q3 n3 c3 Y3 bl_ Z_, v = .agg #[.slice q1 n1 c1, .slice q2 n2 c2, .slice q3 n3 c3] ∧ L' = List.take 2 ([bx (γ120 0) (#[.slice none 0 0, .slice none 0 0, .slice none 0 0]) 30, bx (γ12 0) (#[.slice x11.p x11.n x11.cap, .slice x11.pw x11.nw x11.capw, .slice x11.q x11.m x11.capq]) 30]) ++ (Y1 ++ (Y2 ++ (Y3 ++ (Z_ ++ List.drop 2 ([bx (γ120 0) (#[.slice none 0 0, .slice none 0 0, .slice none 0 0]) 30, bx (γ12 0) (#[.slice x11.p x11.n x11.cap, .slice x11.pw x11.nw x11.capw, .slice x11.q x11.m x11.capq]) 30]))))) ∧ SlO 67 Y1 q1 n1 c1 (x11.ts.take 17) ∧ SlO 51 Y2 q2 n2 c2 (x11.ws.take 17) ∧ SlO 40 Y3 q3 n3 c3 bl_ ∧ GotR 3 Z_ bl_ ∧ bl_.map IntsA.l = (shortG (x11.al.map IntsA.l))) Try.call10 (fun w hw => (rowshort_t x11.p x11.n x11.cap x11.ts x11.pw x11.nw x11.capw x11.ws x11.q x11.m x11.capq x11.al w (htsx11.kept hw.below) hnx11 hrx11.hcp hrx11.hbg (hwsx11.kept hw.below) hnwx11 hrx11.hcw hrx11.hbw (halx11.kept hw.below) hmax11 hrx11.hcq hrx11.hbq (fun y hy => (hrx11.hnm y hy).kept hw.below)).mono fun e w' ⟨q1, n1, c1, Y1, q2, n2, c2, Y2, q3, n3, c3, Y3, bl_, Z_, he, hA, hB, hC, hG, hV, hb, hY⟩ => ⟨_, _, he, ⟨q1, n1, c1, Y1, q2, n2, c2, Y2, q3, n3, c3, Y3, bl_, Z_, rfl, rfl, hA, hB, hC, hG, hV⟩, hs_re4 (hw.join hb hY 2)⟩) ?_
      rintro v40 L40 ⟨qa40, na40, ca40, Ya40, qb40, nb40, cb40, Yb40, qc40, nc40, cc_40, Yc40, gl40, Yd40, rfl, rfl, hA40, hB40, hC40, hG40, hV40⟩
      refine od_ ?_
      exact wk (hmx21 (Ya40, Yb40, Yc40, Yd40, ca40, cb40, cc_40, gl40, na40, nb40, nc40, qa40, qb40, qc40, γ120) ⟨hA40, hB40, hC40, hG40, hV40⟩) [6, 14, 15, 16, 24, 25] [[_], [_], _, _, _, _] [0, 1, 2, 3, 4, 5] rfl rfl
     ·
      refine mo0 1 [] [6, 14, 15, 16, 23, 25] (fun γ100 => [(5, .pointer (some ⟨γ100 0, 0, none⟩))]) (fun γ100 L => bx (γ100 0) (#[.slice none 0 0, .slice none 0 0, .slice none 0 0]) 30 :: L) (fun γ100 => ?_)
      refine od_ ?_
      exact wk (hmx23 (γ100, γ120) trivial) [5, 6, 14, 15, 16, 23, 25] [[_], [_], [_]] [1, 0, 2] rfl rfl
    refine any_cutX (V := (Nat → Nat)) (fun γ100 => True) 5 #[true, false, true, false, true, false, false, false] (fun γ100 => [(5, .pointer (some ⟨γ100 0, 0, none⟩)), (14, .slice (some ⟨b9, o9, none⟩) nr capr), (15, .int .i64 (nr : Nat)), (16, .int .i64 (i : Nat)), (23, .agg #[.slice x11.p x11.n x11.cap, .slice x11.pw x11.nw x11.capw, .slice x11.q x11.m x11.capq]), (25, .agg #[.slice x11.p x11.n x11.cap, .slice x11.pw x11.nw x11.capw, .slice x11.q x11.m x11.capq])]) (fun γ100 => [bx (γ100 0) (#[.slice none 0 0, .slice none 0 0, .slice none 0 0]) 30, bx (γ12 0) (#[.slice x11.p x11.n x11.cap, .slice x11.pw x11.nw x11.capw, .slice x11.q x11.m x11.capq]) 30]) ?_ (fun hmx15 => ?_)
    ·
     rintro γ100 _
     refine any_fork [1, 5] (by kernel_rfl) (by simp) (each_cons _ rfl ?_ (each_cons _ rfl ?_ (each_nil)))
     ·
      refine cP (fun v L' => ∃ q1 n1 c1 Y1 q2 n2 c2 Y2 q3 n3 c3 Y3 bl_ Z_, v = .agg #[.slice q1 n1 c1, .slice q2 n2 c2, .slice q3 n3 c3] ∧ L' = List.take 2 ([bx (γ100 0) (#[.slice none 0 0, .slice none 0 0, .slice none 0 0]) 30, bx (γ12 0) (#[.slice x11.p x11.n x11.cap, .slice x11.pw x11.nw x11.capw, .slice x11.q x11.m x11.capq]) 30]) ++ (Y1 ++ (Y2 ++ (Y3 ++ (Z_ ++ List.drop 2 ([bx (γ100 0) (#[.slice none 0 0, .slice none 0 0, .slice none 0 0]) 30, bx (γ12 0) (#[.slice x11.p x11.n x11.cap, .slice x11.pw x11.nw x11.capw, .slice x11.q x11.m x11.capq]) 30]))))) ∧ SlO 67 Y1 q1 n1 c1 (x11.ts.take 17) ∧ SlO 51 Y2 q2 n2 c2 (x11.ws.take 17) ∧ SlO 40 Y3 q3 n3 c3 bl_ ∧ GotR 3 Z_ bl_ ∧ bl_.map IntsA.l = (shortG (x11.al.map IntsA.l))) Try.call10 (fun w hw => (rowshort_t x11.p x11.n x11.cap x11.ts x11.pw x11.nw x11.capw x11.ws x11.q x11.m x11.capq x11.al w (htsx11.kept hw.below) hnx11 hrx11.hcp hrx11.hbg (hwsx11.kept hw.below) hnwx11 hrx11.hcw hrx11.hbw (halx11.kept hw.below) hmax11 hrx11.hcq hrx11.hbq (fun y hy => (hrx11.hnm y hy).kept hw.below)).mono fun e w' ⟨q1, n1, c1, Y1, q2, n2, c2, Y2, q3, n3, c3, Y3, bl_, Z_, he, hA, hB, hC, hG, hV, hb, hY⟩ => ⟨_, _, he, ⟨q1, n1, c1, Y1, q2, n2, c2, Y2, q3, n3, c3, Y3, bl_, Z_, rfl, rfl, hA, hB, hC, hG, hV⟩, hs_re4 (hw.join hb hY 2)⟩) ?_
      rintro v40 L40 ⟨qa40, na40, ca40, Ya40, qb40, nb40, cb40, Yb40, qc40, nc40, cc_40, Yc40, gl40, Yd40, rfl, rfl, hA40, hB40, hC40, hG40, hV40⟩
      refine od_ ?_
      exact wk (hmx20 (Ya40, Yb40, Yc40, Yd40, ca40, cb40, cc_40, gl40, na40, nb40, nc40, qa40, qb40, qc40, γ100) ⟨hA40, hB40, hC40, hG40, hV40⟩) [5, 14, 15, 16, 24, 25] [[_], [_], _, _, _, _] [0, 1, 2, 3, 4, 5] rfl rfl
     ·
      refine mo0 1 [] [5, 14, 15, 16, 23, 25] (fun γ120 => [(6, .pointer (some ⟨γ120 0, 0, none⟩))]) (fun γ120 L => bx (γ120 0) (#[.slice none 0 0, .slice none 0 0, .slice none 0 0]) 30 :: L) (fun γ120 => ?_)
      refine od_ ?_
      exact wk (hmx23 (γ100, γ120) trivial) [5, 6, 14, 15, 16, 23, 25] [[_], [_], [_]] [0, 1, 2] rfl rfl
    refine any_cutX (V := (List Ob) × (List Ob) × (List Ob) × (List Ob) × (Nat) × (Nat) × (Nat) × (List IntsA) × (Nat) × (Nat) × (Nat) × (Option Addr) × (Option Addr) × (Option Addr) × (Nat → Nat)) (fun ⟨Ya40, Yb40, Yc40, Yd40, ca40, cb40, cc_40, gl40, na40, nb40, nc40, qa40, qb40, qc40, γ120⟩ => SlO 67 Ya40 qa40 na40 ca40 (x11.ts.take 17) ∧ SlO 51 Yb40 qb40 nb40 cb40 (x11.ws.take 17) ∧ SlO 40 Yc40 qc40 nc40 cc_40 gl40 ∧ GotR 3 Yd40 gl40 ∧ gl40.map IntsA.l = (shortG (x11.al.map IntsA.l))) 5 #[true, true, false, false, false, true, false, false] (fun ⟨Ya40, Yb40, Yc40, Yd40, ca40, cb40, cc_40, gl40, na40, nb40, nc40, qa40, qb40, qc40, γ120⟩ => [(4, .pointer (some ⟨γ12 0, 0, none⟩)), (6, .pointer (some ⟨γ120 0, 0, none⟩)), (14, .slice (some ⟨b9, o9, none⟩) nr capr), (15, .int .i64 (nr : Nat)), (16, .int .i64 (i : Nat)), (24, .agg #[.slice qa40 na40 ca40, .slice qb40 nb40 cb40, .slice qc40 nc40 cc_40])]) (fun ⟨Ya40, Yb40, Yc40, Yd40, ca40, cb40, cc_40, gl40, na40, nb40, nc40, qa40, qb40, qc40, γ120⟩ => bx (γ120 0) (#[.slice none 0 0, .slice none 0 0, .slice none 0 0]) 30 :: bx (γ12 0) (#[.slice x11.p x11.n x11.cap, .slice x11.pw x11.nw x11.capw, .slice x11.q x11.m x11.capq]) 30 :: (Ya40 ++ (Yb40 ++ (Yc40 ++ (Yd40 ++ []))))) ?_ (fun hmx14 => ?_)
    ·
     rintro ⟨Ya40, Yb40, Yc40, Yd40, ca40, cb40, cc_40, gl40, na40, nb40, nc40, qa40, qb40, qc40, γ120⟩ ⟨hA40, hB40, hC40, hG40, hV40⟩
     refine any_fork [2, 4] (by kernel_rfl) (by simp) (each_cons _ rfl ?_ (each_cons _ rfl ?_ (each_nil)))
     ·
      refine qo0 1 [(2, .go (owns 1 0 3))] [6, 14, 15, 16, 24] [(25, .agg #[.slice x11.p x11.n x11.cap, .slice x11.pw x11.nw x11.capw, .slice x11.q x11.m x11.capq])] ?_
      refine od_ ?_
      exact wk (hmx21 (Ya40, Yb40, Yc40, Yd40, ca40, cb40, cc_40, gl40, na40, nb40, nc40, qa40, qb40, qc40, γ120) ⟨hA40, hB40, hC40, hG40, hV40⟩) [6, 14, 15, 16, 24, 25] [[_], [_], _, _, _, _] [0, 1, 2, 3, 4, 5] rfl rfl
     ·
      refine mo0 1 [] [4, 6, 14, 15, 16, 24] (fun γ100 => [(5, .pointer (some ⟨γ100 0, 0, none⟩))]) (fun γ100 L => bx (γ100 0) (#[.slice none 0 0, .slice none 0 0, .slice none 0 0]) 30 :: L) (fun γ100 => ?_)
      refine od_ ?_
      exact wk (hmx22 (Ya40, Yb40, Yc40, Yd40, ca40, cb40, cc_40, gl40, na40, nb40, nc40, qa40, qb40, qc40, γ100, γ120) ⟨hA40, hB40, hC40, hG40, hV40⟩) [4, 5, 6, 14, 15, 16, 24] [[_], [_], [_], _, _, _, _] [1, 0, 2, 3, 4, 5, 6] rfl rfl
    refine any_cutX (V := (List Ob) × (List Ob) × (List Ob) × (List Ob) × (Nat) × (Nat) × (Nat) × (List IntsA) × (Nat) × (Nat) × (Nat) × (Option Addr) × (Option Addr) × (Option Addr) × (Nat → Nat)) (fun ⟨Ya40, Yb40, Yc40, Yd40, ca40, cb40, cc_40, gl40, na40, nb40, nc40, qa40, qb40, qc40, γ100⟩ => SlO 67 Ya40 qa40 na40 ca40 (x11.ts.take 17) ∧ SlO 51 Yb40 qb40 nb40 cb40 (x11.ws.take 17) ∧ SlO 40 Yc40 qc40 nc40 cc_40 gl40 ∧ GotR 3 Yd40 gl40 ∧ gl40.map IntsA.l = (shortG (x11.al.map IntsA.l))) 5 #[true, true, false, false, true, false, false, false] (fun ⟨Ya40, Yb40, Yc40, Yd40, ca40, cb40, cc_40, gl40, na40, nb40, nc40, qa40, qb40, qc40, γ100⟩ => [(4, .pointer (some ⟨γ12 0, 0, none⟩)), (5, .pointer (some ⟨γ100 0, 0, none⟩)), (14, .slice (some ⟨b9, o9, none⟩) nr capr), (15, .int .i64 (nr : Nat)), (16, .int .i64 (i : Nat)), (24, .agg #[.slice qa40 na40 ca40, .slice qb40 nb40 cb40, .slice qc40 nc40 cc_40])]) (fun ⟨Ya40, Yb40, Yc40, Yd40, ca40, cb40, cc_40, gl40, na40, nb40, nc40, qa40, qb40, qc40, γ100⟩ => bx (γ100 0) (#[.slice none 0 0, .slice none 0 0, .slice none 0 0]) 30 :: bx (γ12 0) (#[.slice x11.p x11.n x11.cap, .slice x11.pw x11.nw x11.capw, .slice x11.q x11.m x11.capq]) 30 :: (Ya40 ++ (Yb40 ++ (Yc40 ++ (Yd40 ++ []))))) ?_ (fun hmx13 => ?_)
    ·
     rintro ⟨Ya40, Yb40, Yc40, Yd40, ca40, cb40, cc_40, gl40, na40, nb40, nc40, qa40, qb40, qc40, γ100⟩ ⟨hA40, hB40, hC40, hG40, hV40⟩
     refine any_fork [2, 5] (by kernel_rfl) (by simp) (each_cons _ rfl ?_ (each_cons _ rfl ?_ (each_nil)))
     ·
      refine qo0 1 [(2, .go (owns 1 0 3))] [5, 14, 15, 16, 24] [(25, .agg #[.slice x11.p x11.n x11.cap, .slice x11.pw x11.nw x11.capw, .slice x11.q x11.m x11.capq])] ?_
      refine od_ ?_
      exact wk (hmx20 (Ya40, Yb40, Yc40, Yd40, ca40, cb40, cc_40, gl40, na40, nb40, nc40, qa40, qb40, qc40, γ100) ⟨hA40, hB40, hC40, hG40, hV40⟩) [5, 14, 15, 16, 24, 25] [[_], [_], _, _, _, _] [0, 1, 2, 3, 4, 5] rfl rfl
     ·
      refine mo0 1 [] [4, 5, 14, 15, 16, 24] (fun γ120 => [(6, .pointer (some ⟨γ120 0, 0, none⟩))]) (fun γ120 L => bx (γ120 0) (#[.slice none 0 0, .slice none 0 0, .slice none 0 0]) 30 :: L) (fun γ120 => ?_)
      refine od_ ?_
      exact wk (hmx22 (Ya40, Yb40, Yc40, Yd40, ca40, cb40, cc_40, gl40, na40, nb40, nc40, qa40, qb40, qc40, γ100, γ120) ⟨hA40, hB40, hC40, hG40, hV40⟩) [4, 5, 6, 14, 15, 16, 24] [[_], [_], [_], _, _, _, _] [0, 1, 2, 3, 4, 5, 6] rfl rfl
    refine any_cutX (V := (List Ob) × (List Ob) × (List Ob) × (List Ob) × (Nat) × (Nat) × (Nat) × (List IntsA) × (Nat) × (Nat) × (Nat) × (Option Addr) × (Option Addr) × (Option Addr)) (fun ⟨Ya40, Yb40, Yc40, Yd40, ca40, cb40, cc_40, gl40, na40, nb40, nc40, qa40, qb40, qc40⟩ => SlO 67 Ya40 qa40 na40 ca40 (x11.ts.take 17) ∧ SlO 51 Yb40 qb40 nb40 cb40 (x11.ws.take 17) ∧ SlO 40 Yc40 qc40 nc40 cc_40 gl40 ∧ GotR 3 Yd40 gl40 ∧ gl40.map IntsA.l = (shortG (x11.al.map IntsA.l))) 5 #[true, true, true, false, false, false, false, false] (fun ⟨Ya40, Yb40, Yc40, Yd40, ca40, cb40, cc_40, gl40, na40, nb40, nc40, qa40, qb40, qc40⟩ => [(14, .slice (some ⟨b9, o9, none⟩) nr capr), (15, .int .i64 (nr : Nat)), (16, .int .i64 (i : Nat)), (24, .agg #[.slice qa40 na40 ca40, .slice qb40 nb40 cb40, .slice qc40 nc40 cc_40]), (25, .agg #[.slice x11.p x11.n x11.cap, .slice x11.pw x11.nw x11.capw, .slice x11.q x11.m x11.capq])]) (fun ⟨Ya40, Yb40, Yc40, Yd40, ca40, cb40, cc_40, gl40, na40, nb40, nc40, qa40, qb40, qc40⟩ => bx (γ12 0) (#[.slice x11.p x11.n x11.cap, .slice x11.pw x11.nw x11.capw, .slice x11.q x11.m x11.capq]) 30 :: (Ya40 ++ (Yb40 ++ (Yc40 ++ (Yd40 ++ []))))) ?_ (fun hmx12 => ?_)
    ·
     rintro ⟨Ya40, Yb40, Yc40, Yd40, ca40, cb40, cc_40, gl40, na40, nb40, nc40, qa40, qb40, qc40⟩ ⟨hA40, hB40, hC40, hG40, hV40⟩
     refine any_fork [3, 4, 5] (by kernel_rfl) (by simp) (each_cons _ rfl ?_ (each_cons _ rfl ?_ (each_cons _ rfl ?_ (each_nil))))
     ·
      refine cP (fun v L' => ∃ q1 n1 c1 Y1 q2 n2 c2 Y2 q3 n3 c3 Y3 bl_ Z_, v = .agg #[.slice q1 n1 c1, .slice q2 n2 c2, .slice q3 n3 c3] ∧ L' = List.take 1 (bx (γ12 0) (#[.slice x11.p x11.n x11.cap, .slice x11.pw x11.nw x11.capw, .slice x11.q x11.m x11.capq]) 30 :: (Ya40 ++ (Yb40 ++ (Yc40 ++ (Yd40 ++ []))))) ++ (Y1 ++ (Y2 ++ (Y3 ++ (Z_ ++ List.drop 1 (bx (γ12 0) (#[.slice x11.p x11.n x11.cap, .slice x11.pw x11.nw x11.capw, .slice x11.q x11.m x11.capq]) 30 :: (Ya40 ++ (Yb40 ++ (Yc40 ++ (Yd40 ++ []))))))))) ∧ SlO 67 Y1 q1 n1 c1 (x11.ts.take 17) ∧ SlO 51 Y2 q2 n2 c2 (x11.ws.take 17) ∧ SlO 40 Y3 q3 n3 c3 bl_ ∧ GotR 3 Z_ bl_ ∧ bl_.map IntsA.l = (shortG (x11.al.map IntsA.l))) Try.call10 (fun w hw => (rowshort_t x11.p x11.n x11.cap x11.ts x11.pw x11.nw x11.capw x11.ws x11.q x11.m x11.capq x11.al w (htsx11.kept hw.below) hnx11 hrx11.hcp hrx11.hbg (hwsx11.kept hw.below) hnwx11 hrx11.hcw hrx11.hbw (halx11.kept hw.below) hmax11 hrx11.hcq hrx11.hbq (fun y hy => (hrx11.hnm y hy).kept hw.below)).mono fun e w' ⟨q1, n1, c1, Y1, q2, n2, c2, Y2, q3, n3, c3, Y3, bl_, Z_, he, hA, hB, hC, hG, hV, hb, hY⟩ => ⟨_, _, he, ⟨q1, n1, c1, Y1, q2, n2, c2, Y2, q3, n3, c3, Y3, bl_, Z_, rfl, rfl, hA, hB, hC, hG, hV⟩, hs_re4 (hw.join hb hY 1)⟩) ?_
      rintro v80 L80 ⟨qa80, na80, ca80, Ya80, qb80, nb80, cb80, Yb80, qc80, nc80, cc_80, Yc80, gl80, Yd80, rfl, rfl, hA80, hB80, hC80, hG80, hV80⟩
      refine od_ ?_
      exact wk (hmx19 (Ya40, Ya80, Yb40, Yb80, Yc40, Yc80, Yd40, Yd80, ca40, ca80, cb40, cb80, cc_40, cc_80, gl40, gl80, na40, na80, nb40, nb80, nc40, nc80, qa40, qa80, qb40, qb80, qc40, qc80) ⟨hA40, hA80, hB40, hB80, hC40, hC80, hG40, hG80, hV40, hV80⟩) [14, 15, 16, 24, 26] [[_], _, _, _, _, _, _, _, _] [0, 5, 1, 6, 2, 7, 3, 8, 4] rfl rfl
     ·
      refine mo0 1 [] [14, 15, 16, 24, 25] (fun γ100 => [(5, .pointer (some ⟨γ100 0, 0, none⟩))]) (fun γ100 L => bx (γ100 0) (#[.slice none 0 0, .slice none 0 0, .slice none 0 0]) 30 :: L) (fun γ100 => ?_)
      refine od_ ?_
      exact wk (hmx20 (Ya40, Yb40, Yc40, Yd40, ca40, cb40, cc_40, gl40, na40, nb40, nc40, qa40, qb40, qc40, γ100) ⟨hA40, hB40, hC40, hG40, hV40⟩) [5, 14, 15, 16, 24, 25] [[_], [_], _, _, _, _] [0, 1, 2, 3, 4, 5] rfl rfl
     ·
      refine mo0 1 [] [14, 15, 16, 24, 25] (fun γ120 => [(6, .pointer (some ⟨γ120 0, 0, none⟩))]) (fun γ120 L => bx (γ120 0) (#[.slice none 0 0, .slice none 0 0, .slice none 0 0]) 30 :: L) (fun γ120 => ?_)
      refine od_ ?_
      exact wk (hmx21 (Ya40, Yb40, Yc40, Yd40, ca40, cb40, cc_40, gl40, na40, nb40, nc40, qa40, qb40, qc40, γ120) ⟨hA40, hB40, hC40, hG40, hV40⟩) [6, 14, 15, 16, 24, 25] [[_], [_], _, _, _, _] [0, 1, 2, 3, 4, 5] rfl rfl
    refine any_cutX (V := (Nat → Nat) × (Nat → Nat)) (fun ⟨γ100, γ120⟩ => True) 6 #[false, false, false, false, true, true, false, false] (fun ⟨γ100, γ120⟩ => [(4, .pointer (some ⟨γ12 0, 0, none⟩)), (5, .pointer (some ⟨γ100 0, 0, none⟩)), (6, .pointer (some ⟨γ120 0, 0, none⟩)), (14, .slice (some ⟨b9, o9, none⟩) nr capr), (15, .int .i64 (nr : Nat)), (16, .int .i64 (i : Nat))]) (fun ⟨γ100, γ120⟩ => [bx (γ120 0) (#[.slice none 0 0, .slice none 0 0, .slice none 0 0]) 30, bx (γ100 0) (#[.slice none 0 0, .slice none 0 0, .slice none 0 0]) 30, bx (γ12 0) (#[.slice x11.p x11.n x11.cap, .slice x11.pw x11.nw x11.capw, .slice x11.q x11.m x11.capq]) 30]) ?_ (fun hmx11 => ?_)
    ·
     rintro ⟨γ100, γ120⟩ _
     refine any_fork [0, 2] (by kernel_rfl) (by simp) (each_cons _ rfl ?_ (each_cons _ rfl ?_ (each_nil)))
     ·
      refine qo0 1 [(0, .go (owns 2 0 3))] [4, 5, 6, 14, 15, 16] [(23, .agg #[.slice x11.p x11.n x11.cap, .slice x11.pw x11.nw x11.capw, .slice x11.q x11.m x11.capq])] ?_
      refine od_ ?_
      exact wk (hmx17 (γ100, γ120) trivial) [4, 5, 6, 14, 15, 16, 23] [[_], [_], [_]] [0, 1, 2] rfl rfl
     ·
      refine qo0 1 [(2, .go (owns 2 0 3))] [4, 5, 6, 14, 15, 16] [(25, .agg #[.slice x11.p x11.n x11.cap, .slice x11.pw x11.nw x11.capw, .slice x11.q x11.m x11.capq])] ?_
      refine od_ ?_
      exact wk (hmx18 (γ100, γ120) trivial) [4, 5, 6, 14, 15, 16, 25] [[_], [_], [_]] [0, 1, 2] rfl rfl
    refine any_cutX (V := (Nat → Nat)) (fun γ120 => True) 6 #[false, false, true, false, false, true, false, false] (fun γ120 => [(4, .pointer (some ⟨γ12 0, 0, none⟩)), (6, .pointer (some ⟨γ120 0, 0, none⟩)), (14, .slice (some ⟨b9, o9, none⟩) nr capr), (15, .int .i64 (nr : Nat)), (16, .int .i64 (i : Nat)), (25, .agg #[.slice x11.p x11.n x11.cap, .slice x11.pw x11.nw x11.capw, .slice x11.q x11.m x11.capq])]) (fun γ120 => [bx (γ120 0) (#[.slice none 0 0, .slice none 0 0, .slice none 0 0]) 30, bx (γ12 0) (#[.slice x11.p x11.n x11.cap, .slice x11.pw x11.nw x11.capw, .slice x11.q x11.m x11.capq]) 30]) ?_ (fun hmx10 => ?_)
    ·
     rintro γ120 _
     refine any_fork [0, 4] (by kernel_rfl) (by simp) (each_cons _ rfl ?_ (each_cons _ rfl ?_ (each_nil)))
     ·
      refine qo0 1 [(0, .go (owns 1 0 3))] [6, 14, 15, 16, 25] [(23, .agg #[.slice x11.p x11.n x11.cap, .slice x11.pw x11.nw x11.capw, .slice x11.q x11.m x11.capq])] ?_
      refine od_ ?_
      exact wk (hmx16 γ120 trivial) [6, 14, 15, 16, 23, 25] [[_], [_]] [0, 1] rfl rfl
     ·
      refine mo0 1 [] [4, 6, 14, 15, 16, 25] (fun γ100 => [(5, .pointer (some ⟨γ100 0, 0, none⟩))]) (fun γ100 L => bx (γ100 0) (#[.slice none 0 0, .slice none 0 0, .slice none 0 0]) 30 :: L) (fun γ100 => ?_)
      refine od_ ?_
      exact wk (hmx18 (γ100, γ120) trivial) [4, 5, 6, 14, 15, 16, 25] [[_], [_], [_]] [1, 0, 2] rfl rfl
    refine any_cutX (V := (Nat → Nat)) (fun γ100 => True) 6 #[false, false, true, false, true, false, false, false] (fun γ100 => [(4, .pointer (some ⟨γ12 0, 0, none⟩)), (5, .pointer (some ⟨γ100 0, 0, none⟩)), (14, .slice (some ⟨b9, o9, none⟩) nr capr), (15, .int .i64 (nr : Nat)), (16, .int .i64 (i : Nat)), (25, .agg #[.slice x11.p x11.n x11.cap, .slice x11.pw x11.nw x11.capw, .slice x11.q x11.m x11.capq])]) (fun γ100 => [bx (γ100 0) (#[.slice none 0 0, .slice none 0 0, .slice none 0 0]) 30, bx (γ12 0) (#[.slice x11.p x11.n x11.cap, .slice x11.pw x11.nw x11.capw, .slice x11.q x11.m x11.capq]) 30]) ?_ (fun hmx9 => ?_)
    ·
     rintro γ100 _
     refine any_fork [0, 5] (by kernel_rfl) (by simp) (each_cons _ rfl ?_ (each_cons _ rfl ?_ (each_nil)))
     ·
      refine qo0 1 [(0, .go (owns 1 0 3))] [5, 14, 15, 16, 25] [(23, .agg #[.slice x11.p x11.n x11.cap, .slice x11.pw x11.nw x11.capw, .slice x11.q x11.m x11.capq])] ?_
      refine od_ ?_
      exact wk (hmx15 γ100 trivial) [5, 14, 15, 16, 23, 25] [[_], [_]] [0, 1] rfl rfl
     ·
      refine mo0 1 [] [4, 5, 14, 15, 16, 25] (fun γ120 => [(6, .pointer (some ⟨γ120 0, 0, none⟩))]) (fun γ120 L => bx (γ120 0) (#[.slice none 0 0, .slice none 0 0, .slice none 0 0]) 30 :: L) (fun γ120 => ?_)
      refine od_ ?_
      exact wk (hmx18 (γ100, γ120) trivial) [4, 5, 6, 14, 15, 16, 25] [[_], [_], [_]] [0, 1, 2] rfl rfl
    refine any_cutX (V := (Nat → Nat)) (fun γ120 => True) 6 #[true, false, false, false, false, true, false, false] (fun γ120 => [(4, .pointer (some ⟨γ12 0, 0, none⟩)), (6, .pointer (some ⟨γ120 0, 0, none⟩)), (14, .slice (some ⟨b9, o9, none⟩) nr capr), (15, .int .i64 (nr : Nat)), (16, .int .i64 (i : Nat)), (23, .agg #[.slice x11.p x11.n x11.cap, .slice x11.pw x11.nw x11.capw, .slice x11.q x11.m x11.capq])]) (fun γ120 => [bx (γ120 0) (#[.slice none 0 0, .slice none 0 0, .slice none 0 0]) 30, bx (γ12 0) (#[.slice x11.p x11.n x11.cap, .slice x11.pw x11.nw x11.capw, .slice x11.q x11.m x11.capq]) 30]) ?_ (fun hmx8 => ?_)
    ·
     rintro γ120 _
     refine any_fork [1, 2, 4] (by kernel_rfl) (by simp) (each_cons _ rfl ?_ (each_cons _ rfl ?_ (each_cons _ rfl ?_ (each_nil))))
     ·
      refine cP (fun v L' => ∃ q1 n1 c1 Y1 q2 n2 c2 Y2 q3 n3 c3 Y3 bl_ Z_, v = .agg #[.slice q1 n1 c1, .slice q2 n2 c2, .slice q3 n3 c3] ∧ L' = List.take 2 ([bx (γ120 0) (#[.slice none 0 0, .slice none 0 0, .slice none 0 0]) 30, bx (γ12 0) (#[.slice x11.p x11.n x11.cap, .slice x11.pw x11.nw x11.capw, .slice x11.q x11.m x11.capq]) 30]) ++ (Y1 ++ (Y2 ++ (Y3 ++ (Z_ ++ List.drop 2 ([bx (γ120 0) (#[.slice none 0 0, .slice none 0 0, .slice none 0 0]) 30, bx (γ12 0) (#[.slice x11.p x11.n x11.cap, .slice x11.pw x11.nw x11.capw, .slice x11.q x11.m x11.capq]) 30]))))) ∧ SlO 67 Y1 q1 n1 c1 (x11.ts.take 17) ∧ SlO 51 Y2 q2 n2 c2 (x11.ws.take 17) ∧ SlO 40 Y3 q3 n3 c3 bl_ ∧ GotR 3 Z_ bl_ ∧ bl_.map IntsA.l = (shortG (x11.al.map IntsA.l))) Try.call10 (fun w hw => (rowshort_t x11.p x11.n x11.cap x11.ts x11.pw x11.nw x11.capw x11.ws x11.q x11.m x11.capq x11.al w (htsx11.kept hw.below) hnx11 hrx11.hcp hrx11.hbg (hwsx11.kept hw.below) hnwx11 hrx11.hcw hrx11.hbw (halx11.kept hw.below) hmax11 hrx11.hcq hrx11.hbq (fun y hy => (hrx11.hnm y hy).kept hw.below)).mono fun e w' ⟨q1, n1, c1, Y1, q2, n2, c2, Y2, q3, n3, c3, Y3, bl_, Z_, he, hA, hB, hC, hG, hV, hb, hY⟩ => ⟨_, _, he, ⟨q1, n1, c1, Y1, q2, n2, c2, Y2, q3, n3, c3, Y3, bl_, Z_, rfl, rfl, hA, hB, hC, hG, hV⟩, hs_re4 (hw.join hb hY 2)⟩) ?_
      rintro v40 L40 ⟨qa40, na40, ca40, Ya40, qb40, nb40, cb40, Yb40, qc40, nc40, cc_40, Yc40, gl40, Yd40, rfl, rfl, hA40, hB40, hC40, hG40, hV40⟩
      refine od_ ?_
      exact wk (hmx14 (Ya40, Yb40, Yc40, Yd40, ca40, cb40, cc_40, gl40, na40, nb40, nc40, qa40, qb40, qc40, γ120) ⟨hA40, hB40, hC40, hG40, hV40⟩) [4, 6, 14, 15, 16, 24] [[_], [_], _, _, _, _] [0, 1, 2, 3, 4, 5] rfl rfl
     ·
      refine qo0 1 [(2, .go (owns 1 0 3))] [6, 14, 15, 16, 23] [(25, .agg #[.slice x11.p x11.n x11.cap, .slice x11.pw x11.nw x11.capw, .slice x11.q x11.m x11.capq])] ?_
      refine od_ ?_
      exact wk (hmx16 γ120 trivial) [6, 14, 15, 16, 23, 25] [[_], [_]] [0, 1] rfl rfl
     ·
      refine mo0 1 [] [4, 6, 14, 15, 16, 23] (fun γ100 => [(5, .pointer (some ⟨γ100 0, 0, none⟩))]) (fun γ100 L => bx (γ100 0) (#[.slice none 0 0, .slice none 0 0, .slice none 0 0]) 30 :: L) (fun γ100 => ?_)
      refine od_ ?_
      exact wk (hmx17 (γ100, γ120) trivial) [4, 5, 6, 14, 15, 16, 23] [[_], [_], [_]] [1, 0, 2] rfl rfl
    refine any_cutX (V := (Nat → Nat)) (fun γ100 => True) 6 #[true, false, false, false, true, false, false, false] (fun γ100 => [(4, .pointer (some ⟨γ12 0, 0, none⟩)), (5, .pointer (some ⟨γ100 0, 0, none⟩)), (14, .slice (some ⟨b9, o9, none⟩) nr capr), (15, .int .i64 (nr : Nat)), (16, .int .i64 (i : Nat)), (23, .agg #[.slice x11.p x11.n x11.cap, .slice x11.pw x11.nw x11.capw, .slice x11.q x11.m x11.capq])]) (fun γ100 => [bx (γ100 0) (#[.slice none 0 0, .slice none 0 0, .slice none 0 0]) 30, bx (γ12 0) (#[.slice x11.p x11.n x11.cap, .slice x11.pw x11.nw x11.capw, .slice x11.q x11.m x11.capq]) 30]) ?_ (fun hmx7 => ?_)
    ·
     rintro γ100 _
     refine any_fork [1, 2, 5] (by kernel_rfl) (by simp) (each_cons _ rfl ?_ (each_cons _ rfl ?_ (each_cons _ rfl ?_ (each_nil))))
     ·
      refine cP (fun v L' => ∃ q1 n1 c1 Y1 q2 n2 c2 Y2 q3 n3 c3 Y3 bl_ Z_, v = .agg #[.slice q1 n1 c1, .slice q2 n2 c2, .slice q3 n3 c3] ∧ L' = List.take 2 ([bx (γ100 0) (#[.slice none 0 0, .slice none 0 0, .slice none 0 0]) 30, bx (γ12 0) (#[.slice x11.p x11.n x11.cap, .slice x11.pw x11.nw x11.capw, .slice x11.q x11.m x11.capq]) 30]) ++ (Y1 ++ (Y2 ++ (Y3 ++ (Z_ ++ List.drop 2 ([bx (γ100 0) (#[.slice none 0 0, .slice none 0 0, .slice none 0 0]) 30, bx (γ12 0) (#[.slice x11.p x11.n x11.cap, .slice x11.pw x11.nw x11.capw, .slice x11.q x11.m x11.capq]) 30]))))) ∧ SlO 67 Y1 q1 n1 c1 (x11.ts.take 17) ∧ SlO 51 Y2 q2 n2 c2 (x11.ws.take 17) ∧ SlO 40 Y3 q3 n3 c3 bl_ ∧ GotR 3 Z_ bl_ ∧ bl_.map IntsA.l = (shortG (x11.al.map IntsA.l))) Try.call10 (fun w hw => (rowshort_t x11.p x11.n x11.cap x11.ts x11.pw x11.nw x11.capw x11.ws x11.q x11.m x11.capq x11.al w (htsx11.kept hw.below) hnx11 hrx11.hcp hrx11.hbg (hwsx11.kept hw.below) hnwx11 hrx11.hcw hrx11.hbw (halx11.kept hw.below) hmax11 hrx11.hcq hrx11.hbq (fun y hy => (hrx11.hnm y hy).kept hw.below)).mono fun e w' ⟨q1, n1, c1, Y1, q2, n2, c2, Y2, q3, n3, c3, Y3, bl_, Z_, he, hA, hB, hC, hG, hV, hb, hY⟩ => ⟨_, _, he, ⟨q1, n1, c1, Y1, q2, n2, c2, Y2, q3, n3, c3, Y3, bl_, Z_, rfl, rfl, hA, hB, hC, hG, hV⟩, hs_re4 (hw.join hb hY 2)⟩) ?_
      rintro v40 L40 ⟨qa40, na40, ca40, Ya40, qb40, nb40, cb40, Yb40, qc40, nc40, cc_40, Yc40, gl40, Yd40, rfl, rfl, hA40, hB40, hC40, hG40, hV40⟩
      refine od_ ?_
      exact wk (hmx13 (Ya40, Yb40, Yc40, Yd40, ca40, cb40, cc_40, gl40, na40, nb40, nc40, qa40, qb40, qc40, γ100) ⟨hA40, hB40, hC40, hG40, hV40⟩) [4, 5, 14, 15, 16, 24] [[_], [_], _, _, _, _] [0, 1, 2, 3, 4, 5] rfl rfl
     ·
      refine qo0 1 [(2, .go (owns 1 0 3))] [5, 14, 15, 16, 23] [(25, .agg #[.slice x11.p x11.n x11.cap, .slice x11.pw x11.nw x11.capw, .slice x11.q x11.m x11.capq])] ?_
      refine od_ ?_
      exact wk (hmx15 γ100 trivial) [5, 14, 15, 16, 23, 25] [[_], [_]] [0, 1] rfl rfl
     ·
      refine mo0 1 [] [4, 5, 14, 15, 16, 23] (fun γ120 => [(6, .pointer (some ⟨γ120 0, 0, none⟩))]) (fun γ120 L => bx (γ120 0) (#[.slice none 0 0, .slice none 0 0, .slice none 0 0]) 30 :: L) (fun γ120 => ?_)
      refine od_ ?_
      exact wk (hmx17 (γ100, γ120) trivial) [4, 5, 6, 14, 15, 16, 23] [[_], [_], [_]] [0, 1, 2] rfl rfl
    refine any_cutX (V := Unit) (fun _ => True) 6 #[true, false, true, false, false, false, false, false] (fun _ => [(14, .slice (some ⟨b9, o9, none⟩) nr capr), (15, .int .i64 (nr : Nat)), (16, .int .i64 (i : Nat)), (23, .agg #[.slice x11.p x11.n x11.cap, .slice x11.pw x11.nw x11.capw, .slice x11.q x11.m x11.capq]), (25, .agg #[.slice x11.p x11.n x11.cap, .slice x11.pw x11.nw x11.capw, .slice x11.q x11.m x11.capq])]) (fun _ => [bx (γ12 0) (#[.slice x11.p x11.n x11.cap, .slice x11.pw x11.nw x11.capw, .slice x11.q x11.m x11.capq]) 30]) ?_ (fun hmx6 => ?_)
    ·
     rintro _ _
     refine any_fork [1, 4, 5] (by kernel_rfl) (by simp) (each_cons _ rfl ?_ (each_cons _ rfl ?_ (each_cons _ rfl ?_ (each_nil))))
     ·
      refine cP (fun v L' => ∃ q1 n1 c1 Y1 q2 n2 c2 Y2 q3 n3 c3 Y3 bl_ Z_, v = .agg #[.slice q1 n1 c1, .slice q2 n2 c2, .slice q3 n3 c3] ∧ L' = List.take 1 ([bx (γ12 0) (#[.slice x11.p x11.n x11.cap, .slice x11.pw x11.nw x11.capw, .slice x11.q x11.m x11.capq]) 30]) ++ (Y1 ++ (Y2 ++ (Y3 ++ (Z_ ++ List.drop 1 ([bx (γ12 0) (#[.slice x11.p x11.n x11.cap, .slice x11.pw x11.nw x11.capw, .slice x11.q x11.m x11.capq]) 30]))))) ∧ SlO 67 Y1 q1 n1 c1 (x11.ts.take 17) ∧ SlO 51 Y2 q2 n2 c2 (x11.ws.take 17) ∧ SlO 40 Y3 q3 n3 c3 bl_ ∧ GotR 3 Z_ bl_ ∧ bl_.map IntsA.l = (shortG (x11.al.map IntsA.l))) Try.call10 (fun w hw => (rowshort_t x11.p x11.n x11.cap x11.ts x11.pw x11.nw x11.capw x11.ws x11.q x11.m x11.capq x11.al w (htsx11.kept hw.below) hnx11 hrx11.hcp hrx11.hbg (hwsx11.kept hw.below) hnwx11 hrx11.hcw hrx11.hbw (halx11.kept hw.below) hmax11 hrx11.hcq hrx11.hbq (fun y hy => (hrx11.hnm y hy).kept hw.below)).mono fun e w' ⟨q1, n1, c1, Y1, q2, n2, c2, Y2, q3, n3, c3, Y3, bl_, Z_, he, hA, hB, hC, hG, hV, hb, hY⟩ => ⟨_, _, he, ⟨q1, n1, c1, Y1, q2, n2, c2, Y2, q3, n3, c3, Y3, bl_, Z_, rfl, rfl, hA, hB, hC, hG, hV⟩, hs_re4 (hw.join hb hY 1)⟩) ?_
      rintro v40 L40 ⟨qa40, na40, ca40, Ya40, qb40, nb40, cb40, Yb40, qc40, nc40, cc_40, Yc40, gl40, Yd40, rfl, rfl, hA40, hB40, hC40, hG40, hV40⟩
      refine od_ ?_
      exact wk (hmx12 (Ya40, Yb40, Yc40, Yd40, ca40, cb40, cc_40, gl40, na40, nb40, nc40, qa40, qb40, qc40) ⟨hA40, hB40, hC40, hG40, hV40⟩) [14, 15, 16, 24, 25] [[_], _, _, _, _] [0, 1, 2, 3, 4] rfl rfl
     ·
      refine mo0 1 [] [14, 15, 16, 23, 25] (fun γ100 => [(5, .pointer (some ⟨γ100 0, 0, none⟩))]) (fun γ100 L => bx (γ100 0) (#[.slice none 0 0, .slice none 0 0, .slice none 0 0]) 30 :: L) (fun γ100 => ?_)
      refine od_ ?_
      exact wk (hmx15 γ100 trivial) [5, 14, 15, 16, 23, 25] [[_], [_]] [0, 1] rfl rfl
     ·
      refine mo0 1 [] [14, 15, 16, 23, 25] (fun γ120 => [(6, .pointer (some ⟨γ120 0, 0, none⟩))]) (fun γ120 L => bx (γ120 0) (#[.slice none 0 0, .slice none 0 0, .slice none 0 0]) 30 :: L) (fun γ120 => ?_)
      refine od_ ?_
      exact wk (hmx16 γ120 trivial) [6, 14, 15, 16, 23, 25] [[_], [_]] [0, 1] rfl rfl
    refine any_cutX (V := (List Ob) × (List Ob) × (List Ob) × (List Ob) × (Nat) × (Nat) × (Nat) × (List IntsA) × (Nat) × (Nat) × (Nat) × (Option Addr) × (Option Addr) × (Option Addr)) (fun ⟨Ya40, Yb40, Yc40, Yd40, ca40, cb40, cc_40, gl40, na40, nb40, nc40, qa40, qb40, qc40⟩ => SlO 67 Ya40 qa40 na40 ca40 (x11.ts.take 17) ∧ SlO 51 Yb40 qb40 nb40 cb40 (x11.ws.take 17) ∧ SlO 40 Yc40 qc40 nc40 cc_40 gl40 ∧ GotR 3 Yd40 gl40 ∧ gl40.map IntsA.l = (shortG (x11.al.map IntsA.l))) 6 #[true, true, false, false, false, false, false, false] (fun ⟨Ya40, Yb40, Yc40, Yd40, ca40, cb40, cc_40, gl40, na40, nb40, nc40, qa40, qb40, qc40⟩ => [(4, .pointer (some ⟨γ12 0, 0, none⟩)), (14, .slice (some ⟨b9, o9, none⟩) nr capr), (15, .int .i64 (nr : Nat)), (16, .int .i64 (i : Nat)), (24, .agg #[.slice qa40 na40 ca40, .slice qb40 nb40 cb40, .slice qc40 nc40 cc_40])]) (fun ⟨Ya40, Yb40, Yc40, Yd40, ca40, cb40, cc_40, gl40, na40, nb40, nc40, qa40, qb40, qc40⟩ => bx (γ12 0) (#[.slice x11.p x11.n x11.cap, .slice x11.pw x11.nw x11.capw, .slice x11.q x11.m x11.capq]) 30 :: (Ya40 ++ (Yb40 ++ (Yc40 ++ (Yd40 ++ []))))) ?_ (fun hmx5 => ?_)
    ·
     rintro ⟨Ya40, Yb40, Yc40, Yd40, ca40, cb40, cc_40, gl40, na40, nb40, nc40, qa40, qb40, qc40⟩ ⟨hA40, hB40, hC40, hG40, hV40⟩
     refine any_fork [2, 4, 5] (by kernel_rfl) (by simp) (each_cons _ rfl ?_ (each_cons _ rfl ?_ (each_cons _ rfl ?_ (each_nil))))
     ·
      refine qo0 1 [(2, .go (owns 0 0 3))] [14, 15, 16, 24] [(25, .agg #[.slice x11.p x11.n x11.cap, .slice x11.pw x11.nw x11.capw, .slice x11.q x11.m x11.capq])] ?_
      refine od_ ?_
      exact wk (hmx12 (Ya40, Yb40, Yc40, Yd40, ca40, cb40, cc_40, gl40, na40, nb40, nc40, qa40, qb40, qc40) ⟨hA40, hB40, hC40, hG40, hV40⟩) [14, 15, 16, 24, 25] [[_], _, _, _, _] [0, 1, 2, 3, 4] rfl rfl
     ·
      refine mo0 1 [] [4, 14, 15, 16, 24] (fun γ100 => [(5, .pointer (some ⟨γ100 0, 0, none⟩))]) (fun γ100 L => bx (γ100 0) (#[.slice none 0 0, .slice none 0 0, .slice none 0 0]) 30 :: L) (fun γ100 => ?_)
      refine od_ ?_
      exact wk (hmx13 (Ya40, Yb40, Yc40, Yd40, ca40, cb40, cc_40, gl40, na40, nb40, nc40, qa40, qb40, qc40, γ100) ⟨hA40, hB40, hC40, hG40, hV40⟩) [4, 5, 14, 15, 16, 24] [[_], [_], _, _, _, _] [0, 1, 2, 3, 4, 5] rfl rfl
     ·
      refine mo0 1 [] [4, 14, 15, 16, 24] (fun γ120 => [(6, .pointer (some ⟨γ120 0, 0, none⟩))]) (fun γ120 L => bx (γ120 0) (#[.slice none 0 0, .slice none 0 0, .slice none 0 0]) 30 :: L) (fun γ120 => ?_)
      refine od_ ?_
      exact wk (hmx14 (Ya40, Yb40, Yc40, Yd40, ca40, cb40, cc_40, gl40, na40, nb40, nc40, qa40, qb40, qc40, γ120) ⟨hA40, hB40, hC40, hG40, hV40⟩) [4, 6, 14, 15, 16, 24] [[_], [_], _, _, _, _] [0, 1, 2, 3, 4, 5] rfl rfl
    refine any_cutX (V := (Nat → Nat)) (fun γ120 => True) 7 #[false, false, false, false, false, true, false, false] (fun γ120 => [(4, .pointer (some ⟨γ12 0, 0, none⟩)), (6, .pointer (some ⟨γ120 0, 0, none⟩)), (14, .slice (some ⟨b9, o9, none⟩) nr capr), (15, .int .i64 (nr : Nat)), (16, .int .i64 (i : Nat))]) (fun γ120 => [bx (γ120 0) (#[.slice none 0 0, .slice none 0 0, .slice none 0 0]) 30, bx (γ12 0) (#[.slice x11.p x11.n x11.cap, .slice x11.pw x11.nw x11.capw, .slice x11.q x11.m x11.capq]) 30]) ?_ (fun hmx4 => ?_)
    ·
     rintro γ120 _
     refine any_fork [0, 2, 4] (by kernel_rfl) (by simp) (each_cons _ rfl ?_ (each_cons _ rfl ?_ (each_cons _ rfl ?_ (each_nil))))
     ·
      refine qo0 1 [(0, .go (owns 1 0 3))] [4, 6, 14, 15, 16] [(23, .agg #[.slice x11.p x11.n x11.cap, .slice x11.pw x11.nw x11.capw, .slice x11.q x11.m x11.capq])] ?_
      refine od_ ?_
      exact wk (hmx8 γ120 trivial) [4, 6, 14, 15, 16, 23] [[_], [_]] [0, 1] rfl rfl
     ·
      refine qo0 1 [(2, .go (owns 1 0 3))] [4, 6, 14, 15, 16] [(25, .agg #[.slice x11.p x11.n x11.cap, .slice x11.pw x11.nw x11.capw, .slice x11.q x11.m x11.capq])] ?_
      refine od_ ?_
      exact wk (hmx10 γ120 trivial) [4, 6, 14, 15, 16, 25] [[_], [_]] [0, 1] rfl rfl
     ·
      refine mo0 1 [] [4, 6, 14, 15, 16] (fun γ100 => [(5, .pointer (some ⟨γ100 0, 0, none⟩))]) (fun γ100 L => bx (γ100 0) (#[.slice none 0 0, .slice none 0 0, .slice none 0 0]) 30 :: L) (fun γ100 => ?_)
      refine od_ ?_
      exact wk (hmx11 (γ100, γ120) trivial) [4, 5, 6, 14, 15, 16] [[_], [_], [_]] [1, 0, 2] rfl rfl
    refine any_cutX (V := (Nat → Nat)) (fun γ100 => True) 7 #[false, false, false, false, true, false, false, false] (fun γ100 => [(4, .pointer (some ⟨γ12 0, 0, none⟩)), (5, .pointer (some ⟨γ100 0, 0, none⟩)), (14, .slice (some ⟨b9, o9, none⟩) nr capr), (15, .int .i64 (nr : Nat)), (16, .int .i64 (i : Nat))]) (fun γ100 => [bx (γ100 0) (#[.slice none 0 0, .slice none 0 0, .slice none 0 0]) 30, bx (γ12 0) (#[.slice x11.p x11.n x11.cap, .slice x11.pw x11.nw x11.capw, .slice x11.q x11.m x11.capq]) 30]) ?_ (fun hmx3 => ?_)
    ·
     rintro γ100 _
     refine any_fork [0, 2, 5] (by kernel_rfl) (by simp) (each_cons _ rfl ?_ (each_cons _ rfl ?_ (each_cons _ rfl ?_ (each_nil))))
     ·
      refine qo0 1 [(0, .go (owns 1 0 3))] [4, 5, 14, 15, 16] [(23, .agg #[.slice x11.p x11.n x11.cap, .slice x11.pw x11.nw x11.capw, .slice x11.q x11.m x11.capq])] ?_
      refine od_ ?_
      exact wk (hmx7 γ100 trivial) [4, 5, 14, 15, 16, 23] [[_], [_]] [0, 1] rfl rfl
     ·
      refine qo0 1 [(2, .go (owns 1 0 3))] [4, 5, 14, 15, 16] [(25, .agg #[.slice x11.p x11.n x11.cap, .slice x11.pw x11.nw x11.capw, .slice x11.q x11.m x11.capq])] ?_
      refine od_ ?_
      exact wk (hmx9 γ100 trivial) [4, 5, 14, 15, 16, 25] [[_], [_]] [0, 1] rfl rfl
     ·
      refine mo0 1 [] [4, 5, 14, 15, 16] (fun γ120 => [(6, .pointer (some ⟨γ120 0, 0, none⟩))]) (fun γ120 L => bx (γ120 0) (#[.slice none 0 0, .slice none 0 0, .slice none 0 0]) 30 :: L) (fun γ120 => ?_)
      refine od_ ?_
      exact wk (hmx11 (γ100, γ120) trivial) [4, 5, 6, 14, 15, 16] [[_], [_], [_]] [0, 1, 2] rfl rfl
    refine any_cutX (V := Unit) (fun _ => True) 7 #[false, false, true, false, false, false, false, false] (fun _ => [(4, .pointer (some ⟨γ12 0, 0, none⟩)), (14, .slice (some ⟨b9, o9, none⟩) nr capr), (15, .int .i64 (nr : Nat)), (16, .int .i64 (i : Nat)), (25, .agg #[.slice x11.p x11.n x11.cap, .slice x11.pw x11.nw x11.capw, .slice x11.q x11.m x11.capq])]) (fun _ => [bx (γ12 0) (#[.slice x11.p x11.n x11.cap, .slice x11.pw x11.nw x11.capw, .slice x11.q x11.m x11.capq]) 30]) ?_ (fun hmx2 => ?_)
    ·
     rintro _ _
     refine any_fork [0, 4, 5] (by kernel_rfl) (by simp) (each_cons _ rfl ?_ (each_cons _ rfl ?_ (each_cons _ rfl ?_ (each_nil))))
     ·
      refine qo0 1 [(0, .go (owns 0 0 3))] [14, 15, 16, 25] [(23, .agg #[.slice x11.p x11.n x11.cap, .slice x11.pw x11.nw x11.capw, .slice x11.q x11.m x11.capq])] ?_
      refine od_ ?_
      exact wk (hmx6 () trivial) [14, 15, 16, 23, 25] [[_]] [0] rfl rfl
     ·
      refine mo0 1 [] [4, 14, 15, 16, 25] (fun γ100 => [(5, .pointer (some ⟨γ100 0, 0, none⟩))]) (fun γ100 L => bx (γ100 0) (#[.slice none 0 0, .slice none 0 0, .slice none 0 0]) 30 :: L) (fun γ100 => ?_)
      refine od_ ?_
      exact wk (hmx9 γ100 trivial) [4, 5, 14, 15, 16, 25] [[_], [_]] [0, 1] rfl rfl
     ·
      refine mo0 1 [] [4, 14, 15, 16, 25] (fun γ120 => [(6, .pointer (some ⟨γ120 0, 0, none⟩))]) (fun γ120 L => bx (γ120 0) (#[.slice none 0 0, .slice none 0 0, .slice none 0 0]) 30 :: L) (fun γ120 => ?_)
      refine od_ ?_
      exact wk (hmx10 γ120 trivial) [4, 6, 14, 15, 16, 25] [[_], [_]] [0, 1] rfl rfl
    refine any_cutX (V := Unit) (fun _ => True) 7 #[true, false, false, false, false, false, false, false] (fun _ => [(4, .pointer (some ⟨γ12 0, 0, none⟩)), (14, .slice (some ⟨b9, o9, none⟩) nr capr), (15, .int .i64 (nr : Nat)), (16, .int .i64 (i : Nat)), (23, .agg #[.slice x11.p x11.n x11.cap, .slice x11.pw x11.nw x11.capw, .slice x11.q x11.m x11.capq])]) (fun _ => [bx (γ12 0) (#[.slice x11.p x11.n x11.cap, .slice x11.pw x11.nw x11.capw, .slice x11.q x11.m x11.capq]) 30]) ?_ (fun hmx1 => ?_)
    ·
     rintro _ _
     refine any_fork [1, 2, 4, 5] (by kernel_rfl) (by simp) (each_cons _ rfl ?_ (each_cons _ rfl ?_ (each_cons _ rfl ?_ (each_cons _ rfl ?_ (each_nil)))))
     ·
      refine cP (fun v L' => ∃ q1 n1 c1 Y1 q2 n2 c2 Y2 q3 n3 c3 Y3 bl_ Z_, v = .agg #[.slice q1 n1 c1, .slice q2 n2 c2, .slice q3 n3 c3] ∧ L' = List.take 1 ([bx (γ12 0) (#[.slice x11.p x11.n x11.cap, .slice x11.pw x11.nw x11.capw, .slice x11.q x11.m x11.capq]) 30]) ++ (Y1 ++ (Y2 ++ (Y3 ++ (Z_ ++ List.drop 1 ([bx (γ12 0) (#[.slice x11.p x11.n x11.cap, .slice x11.pw x11.nw x11.capw, .slice x11.q x11.m x11.capq]) 30]))))) ∧ SlO 67 Y1 q1 n1 c1 (x11.ts.take 17) ∧ SlO 51 Y2 q2 n2 c2 (x11.ws.take 17) ∧ SlO 40 Y3 q3 n3 c3 bl_ ∧ GotR 3 Z_ bl_ ∧ bl_.map IntsA.l = (shortG (x11.al.map IntsA.l))) Try.call10 (fun w hw => (rowshort_t x11.p x11.n x11.cap x11.ts x11.pw x11.nw x11.capw x11.ws x11.q x11.m x11.capq x11.al w (htsx11.kept hw.below) hnx11 hrx11.hcp hrx11.hbg (hwsx11.kept hw.below) hnwx11 hrx11.hcw hrx11.hbw (halx11.kept hw.below) hmax11 hrx11.hcq hrx11.hbq (fun y hy => (hrx11.hnm y hy).kept hw.below)).mono fun e w' ⟨q1, n1, c1, Y1, q2, n2, c2, Y2, q3, n3, c3, Y3, bl_, Z_, he, hA, hB, hC, hG, hV, hb, hY⟩ => ⟨_, _, he, ⟨q1, n1, c1, Y1, q2, n2, c2, Y2, q3, n3, c3, Y3, bl_, Z_, rfl, rfl, hA, hB, hC, hG, hV⟩, hs_re4 (hw.join hb hY 1)⟩) ?_
      rintro v40 L40 ⟨qa40, na40, ca40, Ya40, qb40, nb40, cb40, Yb40, qc40, nc40, cc_40, Yc40, gl40, Yd40, rfl, rfl, hA40, hB40, hC40, hG40, hV40⟩
      refine od_ ?_
      exact wk (hmx5 (Ya40, Yb40, Yc40, Yd40, ca40, cb40, cc_40, gl40, na40, nb40, nc40, qa40, qb40, qc40) ⟨hA40, hB40, hC40, hG40, hV40⟩) [4, 14, 15, 16, 24] [[_], _, _, _, _] [0, 1, 2, 3, 4] rfl rfl
     ·
      refine qo0 1 [(2, .go (owns 0 0 3))] [14, 15, 16, 23] [(25, .agg #[.slice x11.p x11.n x11.cap, .slice x11.pw x11.nw x11.capw, .slice x11.q x11.m x11.capq])] ?_
      refine od_ ?_
      exact wk (hmx6 () trivial) [14, 15, 16, 23, 25] [[_]] [0] rfl rfl
     ·
      refine mo0 1 [] [4, 14, 15, 16, 23] (fun γ100 => [(5, .pointer (some ⟨γ100 0, 0, none⟩))]) (fun γ100 L => bx (γ100 0) (#[.slice none 0 0, .slice none 0 0, .slice none 0 0]) 30 :: L) (fun γ100 => ?_)
      refine od_ ?_
      exact wk (hmx7 γ100 trivial) [4, 5, 14, 15, 16, 23] [[_], [_]] [0, 1] rfl rfl
     ·
      refine mo0 1 [] [4, 14, 15, 16, 23] (fun γ120 => [(6, .pointer (some ⟨γ120 0, 0, none⟩))]) (fun γ120 L => bx (γ120 0) (#[.slice none 0 0, .slice none 0 0, .slice none 0 0]) 30 :: L) (fun γ120 => ?_)
      refine od_ ?_
      exact wk (hmx8 γ120 trivial) [4, 6, 14, 15, 16, 23] [[_], [_]] [0, 1] rfl rfl
    refine any_fork [0, 2, 4, 5] (by kernel_rfl) (by simp) (each_cons _ rfl ?_ (each_cons _ rfl ?_ (each_cons _ rfl ?_ (each_cons _ rfl ?_ (each_nil)))))
    ·
     refine qo0 1 [(0, .go (owns 0 0 3))] [4, 14, 15, 16] [(23, .agg #[.slice x11.p x11.n x11.cap, .slice x11.pw x11.nw x11.capw, .slice x11.q x11.m x11.capq])] ?_
     refine od_ ?_
     exact wk (hmx1 () trivial) [4, 14, 15, 16, 23] [[_]] [0] rfl rfl
    ·
     refine qo0 1 [(2, .go (owns 0 0 3))] [4, 14, 15, 16] [(25, .agg #[.slice x11.p x11.n x11.cap, .slice x11.pw x11.nw x11.capw, .slice x11.q x11.m x11.capq])] ?_
     refine od_ ?_
     exact wk (hmx2 () trivial) [4, 14, 15, 16, 25] [[_]] [0] rfl rfl
    ·
     refine mo0 1 [] [4, 14, 15, 16] (fun γ100 => [(5, .pointer (some ⟨γ100 0, 0, none⟩))]) (fun γ100 L => bx (γ100 0) (#[.slice none 0 0, .slice none 0 0, .slice none 0 0]) 30 :: L) (fun γ100 => ?_)
     refine od_ ?_
     exact wk (hmx3 γ100 trivial) [4, 5, 14, 15, 16] [[_], [_]] [0, 1] rfl rfl
    ·
     refine mo0 1 [] [4, 14, 15, 16] (fun γ120 => [(6, .pointer (some ⟨γ120 0, 0, none⟩))]) (fun γ120 L => bx (γ120 0) (#[.slice none 0 0, .slice none 0 0, .slice none 0 0]) 30 :: L) (fun γ120 => ?_)
     refine od_ ?_
     exact wk (hmx4 γ120 trivial) [4, 6, 14, 15, 16] [[_], [_]] [0, 1] rfl rfl
   rintro ⟨Ya40, Ya80, Yb40, Yb80, Yc40, Yc80, Yd40, Yd80, ca40, ca80, cb40, cb80, cc_40, cc_80, gl40, gl80, na40, na80, nb40, nb80, nc40, nc80, qa40, qa80, qb40, qb80, qc40, qc80, γ100, γ120⟩ ⟨hA40, hA80, hB40, hB80, hC40, hC80, hG40, hG80, hV40, hV80⟩
   refine any_nil (by kernel_rfl) ?_
   refine ds_ (sq_ (at_rebase fun wR219 hS219 => ?_))
   have hla40 := hA40.len
   rw [List.length_take] at hla40
   have hlb40 := hB40.len
   rw [List.length_take] at hlb40
   have hlc40 := hC40.len
   have hgf40 := sg_facts hV40
   have hlx40 := hA40.len
   have hly40 := hB40.len
   have hsa40 := hA40.sub hS219 (List.Sublist.cons _ (List.Sublist.cons _ (List.Sublist.cons _ (List.sublist_append_left Ya40 _))))
   have hsb40 := hB40.sub hS219 (List.Sublist.cons _ (List.Sublist.cons _ (List.Sublist.cons _ (List.Sublist.trans (List.Sublist.trans (List.sublist_append_left Yb40 _) (List.sublist_append_right Ya80 _)) (List.sublist_append_right Ya40 _)))))
   have hsc40 := hC40.sub hS219 (List.Sublist.cons _ (List.Sublist.cons _ (List.Sublist.cons _ (List.Sublist.trans (List.Sublist.trans (List.Sublist.trans (List.Sublist.trans (List.sublist_append_left Yc40 _) (List.sublist_append_right Yb80 _)) (List.sublist_append_right Yb40 _)) (List.sublist_append_right Ya80 _)) (List.sublist_append_right Ya40 _)))))
   have hrg40 := GotR.reads hG40 hS219 (List.Sublist.cons _ (List.Sublist.cons _ (List.Sublist.cons _ (List.Sublist.trans (List.Sublist.trans (List.Sublist.trans (List.Sublist.trans (List.Sublist.trans (List.Sublist.trans (List.sublist_append_left Yd40 _) (List.sublist_append_right Yc80 _)) (List.sublist_append_right Yc40 _)) (List.sublist_append_right Yb80 _)) (List.sublist_append_right Yb40 _)) (List.sublist_append_right Ya80 _)) (List.sublist_append_right Ya40 _)))))
   have hg940 : ∀ y ∈ gl40, y.n ≤ 1000 := fun y hy => by have h1 := hgf40.2 y hy; have h2 := (hrg40 y hy).hn; omega
   have hbf40 := hB40.facts.2.1
   have hcf40 := hC40.facts.2.1
   have hla80 := hA80.len
   rw [List.length_take] at hla80
   have hlb80 := hB80.len
   rw [List.length_take] at hlb80
   have hlc80 := hC80.len
   have hgf80 := sg_facts hV80
   have hlx80 := hA80.len
   have hly80 := hB80.len
   have hsa80 := hA80.sub hS219 (List.Sublist.cons _ (List.Sublist.cons _ (List.Sublist.cons _ (List.Sublist.trans (List.sublist_append_left Ya80 _) (List.sublist_append_right Ya40 _)))))
   have hsb80 := hB80.sub hS219 (List.Sublist.cons _ (List.Sublist.cons _ (List.Sublist.cons _ (List.Sublist.trans (List.Sublist.trans (List.Sublist.trans (List.sublist_append_left Yb80 _) (List.sublist_append_right Yb40 _)) (List.sublist_append_right Ya80 _)) (List.sublist_append_right Ya40 _)))))
   have hsc80 := hC80.sub hS219 (List.Sublist.cons _ (List.Sublist.cons _ (List.Sublist.cons _ (List.Sublist.trans (List.Sublist.trans (List.Sublist.trans (List.Sublist.trans (List.Sublist.trans (List.sublist_append_left Yc80 _) (List.sublist_append_right Yc40 _)) (List.sublist_append_right Yb80 _)) (List.sublist_append_right Yb40 _)) (List.sublist_append_right Ya80 _)) (List.sublist_append_right Ya40 _)))))
   have hrg80 := GotR.reads hG80 hS219 (List.Sublist.cons _ (List.Sublist.cons _ (List.Sublist.cons _ (List.Sublist.trans (List.Sublist.trans (List.Sublist.trans (List.Sublist.trans (List.Sublist.trans (List.Sublist.trans (List.Sublist.trans (List.sublist_append_left Yd80 _) (List.sublist_append_right Yd40 _)) (List.sublist_append_right Yc80 _)) (List.sublist_append_right Yc40 _)) (List.sublist_append_right Yb80 _)) (List.sublist_append_right Yb40 _)) (List.sublist_append_right Ya80 _)) (List.sublist_append_right Ya40 _)))))
   have hg980 : ∀ y ∈ gl80, y.n ≤ 1000 := fun y hy => by have h1 := hgf80.2 y hy; have h2 := (hrg80 y hy).hn; omega
   have hbf80 := hB80.facts.2.1
   have hcf80 := hC80.facts.2.1
   have hrow5 := hS219.oldRow 1 rfl
   have hrow6 := hS219.oldRow 0 rfl
   have hUx := hrx11.hU
   have hWx := hrx11.hWU
   refine ao_ (qo 6 [(1, .go (outs (γ120 0) (0 + 0 * 3) [.slice qa80 na80 ca80])), (3, .go (outs (γ120 0) (0 + 0 * 3 + 1) [.slice qb80 nb80 cb80])), (5, .go (outs (γ120 0) (0 + 0 * 3 + 2) [.slice qc80 nc80 cc_80]))] [5, 6, 14, 15, 16] [(28, .agg #[.slice qa80 na80 ca80]), (30, .slice qb80 nb80 cb80), (32, .slice qc80 nc80 cc_80)] (cellsP wR219 (γ120 0) (0 + 0 * 3) [.slice qa80 na80 ca80] ++ (cellsP wR219 (γ120 0) (0 + 0 * 3 + 1) [.slice qb80 nb80 cb80] ++ (cellsP wR219 (γ120 0) (0 + 0 * 3 + 2) [.slice qc80 nc80 cc_80]))) (alA (rd_pre hrow6 _ rfl) (alA (rd_part hrow6 1 _ rfl) (rd_part hrow6 2 _ rfl))) (cD (.int .i64 (chkO (x11.ts.take 17) (x11.ws.take 17) (shortG (x11.al.map IntsA.l)))) Try.call11 (fun w hw => by have := rcheck_t qa80 na80 ca80 (x11.ts.take 17) qb80 nb80 cb80 (x11.ws.take 17) qc80 nc80 cc_80 gl80 w (hsa80.kept hw.below) hlx80 (by omega) (hsb80.kept hw.below) hly80 (by omega) (fun y hy => hWx y (List.mem_of_mem_take hy)) (hsc80.kept hw.below) hlc80 (by omega) (fun y hy => (hrg80 y hy).kept hw.below) hg980 hbf80 hcf80; rw [hV80] at this; exact this) (qo0 1 [] [5, 6, 14, 15, 16] [(7, .int .i64 (chkO (x11.ts.take 17) (x11.ws.take 17) (shortG (x11.al.map IntsA.l))))] (on_ (ds_ (sq_ (ao_ (qo 6 [(1, .go (outs (γ100 0) (0 + 0 * 3) [.slice qa40 na40 ca40])), (3, .go (outs (γ100 0) (0 + 0 * 3 + 1) [.slice qb40 nb40 cb40])), (5, .go (outs (γ100 0) (0 + 0 * 3 + 2) [.slice qc40 nc40 cc_40]))] [5, 6, 7, 14, 15, 16] [(36, .agg #[.slice qa40 na40 ca40]), (38, .slice qb40 nb40 cb40), (40, .slice qc40 nc40 cc_40)] (cellsP wR219 (γ100 0) (0 + 0 * 3) [.slice qa40 na40 ca40] ++ (cellsP wR219 (γ100 0) (0 + 0 * 3 + 1) [.slice qb40 nb40 cb40] ++ (cellsP wR219 (γ100 0) (0 + 0 * 3 + 2) [.slice qc40 nc40 cc_40]))) (alA (rd_pre hrow5 _ rfl) (alA (rd_part hrow5 1 _ rfl) (rd_part hrow5 2 _ rfl))) (cP (fun v L' => ∃ q_ n_ c_ Y_ Z_ el_, v = .tuple #[.slice q_ n_ c_, .int .i64 (chkO (x11.ts.take 17) (x11.ws.take 17) (shortG (x11.al.map IntsA.l)))] ∧ L' = List.take 0 ([]) ++ (Y_ ++ (Z_ ++ List.drop 0 ([]))) ∧ SlO 47 Y_ q_ n_ c_ el_ ∧ GotE 3 Z_ el_ ∧ el_.map EnA.val = (if chkO (x11.ts.take 17) (x11.ws.take 17) (shortG (x11.al.map IntsA.l)) = 0 then docV (x11.ts.take 17) (x11.ws.take 17) (shortG (x11.al.map IntsA.l)) else []) ∧ (∀ x ∈ el_, x.U)) Try.call12 (fun w hw => (ents_t qa40 na40 ca40 (x11.ts.take 17) qb40 nb40 cb40 (x11.ws.take 17) qc40 nc40 cc_40 gl40 w (hsa40.kept hw.below) hlx40 (by omega) (take_U hUx) (hsb40.kept hw.below) hly40 (by omega) (fun y hy => hWx y (List.mem_of_mem_take hy)) (hsc40.kept hw.below) hlc40 (by omega) (fun y hy => (hrg40 y hy).kept hw.below) hg940).mono fun e w' ⟨q_, n_, c_, Y_, Z_, el_, he, hO, hG, hV, hU, hb, hY⟩ => by rw [hV40] at he hV; exact ⟨_, _, he, ⟨q_, n_, c_, Y_, Z_, el_, rfl, rfl, hO, hG, hV, hU⟩, hs_re (hw.join hb hY 0)⟩) ?_)))))))))
   rintro v223 L223 ⟨q223, n223, c223, Y223, Yz223, el223, rfl, rfl, hO223, hG223, hV223, hE223⟩
   refine qo0 5 [] [5, 6, 7, 14, 15, 16] [(8, .slice q223 n223 c223), (9, .int .i64 (chkO (x11.ts.take 17) (x11.ws.take 17) (shortG (x11.al.map IntsA.l))))] (on_ (ds_ (sq_ (sq_ (ao_ (qo 10 [(2, .no), (5, .go (outs (γ100 0) (0 + 0 * 3) [.slice qa40 na40 ca40])), (7, .go (outs (γ100 0) (0 + 0 * 3 + 1) [.slice qb40 nb40 cb40])), (9, .go (outs (γ100 0) (0 + 0 * 3 + 2) [.slice qc40 nc40 cc_40]))] [5, 6, 7, 8, 14, 15, 16] [(47, .bool false), (49, .agg #[.slice qa40 na40 ca40]), (51, .slice qb40 nb40 cb40), (53, .slice qc40 nc40 cc_40)] ([¬ (((chkO (x11.ts.take 17) (x11.ws.take 17) (shortG (x11.al.map IntsA.l))) : Int) ≠ ((chkO (x11.ts.take 17) (x11.ws.take 17) (shortG (x11.al.map IntsA.l))) : Int))] ++ (cellsP wR219 (γ100 0) (0 + 0 * 3) [.slice qa40 na40 ca40] ++ (cellsP wR219 (γ100 0) (0 + 0 * 3 + 1) [.slice qb40 nb40 cb40] ++ (cellsP wR219 (γ100 0) (0 + 0 * 3 + 2) [.slice qc40 nc40 cc_40])))) (alA (al1 (fun h => h rfl)) (alA (rd_pre hrow5 _ rfl) (alA (rd_part hrow5 1 _ rfl) (rd_part hrow5 2 _ rfl)))) (cD (.int .i64 (chkO (x11.ts.take 17) (x11.ws.take 17) (shortG (x11.al.map IntsA.l)))) Try.call13 (fun w hw => by have := check_t qa40 na40 ca40 (x11.ts.take 17) qb40 nb40 cb40 (x11.ws.take 17) qc40 nc40 cc_40 gl40 w (hsa40.kept hw.below) hlx40 (by omega) (hsb40.kept hw.below) hly40 (by omega) (hsc40.kept hw.below) hlc40 (by omega) (fun y hy => (hrg40 y hy).kept hw.below) hg940; rw [hV40] at this; exact this) ?_)))))))
   by_cases q227 : ((chkO (x11.ts.take 17) (x11.ws.take 17) (shortG (x11.al.map IntsA.l))) : Int) ≠ (0 : Int)
   ·
    refine qo 15 [(12, .no), (16, .yes), (20, .no), (24, .go (outs (γ100 0) (0 + 0 * 3) [.slice qa40 na40 ca40, .slice qb40 nb40 cb40, .slice qc40 nc40 cc_40])), (25, .go (outs (γ120 0) (0 + 0 * 3) [.slice qa80 na80 ca80, .slice qb80 nb80 cb80, .slice qc80 nc80 cc_80]))] [5, 6, 7, 8, 14, 15, 16] [(67, .bool false), (68, .agg #[.slice qa40 na40 ca40, .slice qb40 nb40 cb40, .slice qc40 nc40 cc_40]), (69, .agg #[.slice qa80 na80 ca80, .slice qb80 nb80 cb80, .slice qc80 nc80 cc_80])] ([¬ (((chkO (x11.ts.take 17) (x11.ws.take 17) (shortG (x11.al.map IntsA.l))) : Int) ≠ ((chkO (x11.ts.take 17) (x11.ws.take 17) (shortG (x11.al.map IntsA.l))) : Int))] ++ ([((chkO (x11.ts.take 17) (x11.ws.take 17) (shortG (x11.al.map IntsA.l))) : Int) ≠ (0 : Int)] ++ ([¬ (((n223 : Nat) : Int) ≠ (0 : Int))] ++ (cellsP wR219 (γ100 0) (0 + 0 * 3) [.slice qa40 na40 ca40, .slice qb40 nb40 cb40, .slice qc40 nc40 cc_40] ++ (cellsP wR219 (γ120 0) (0 + 0 * 3) [.slice qa80 na80 ca80, .slice qb80 nb80 cb80, .slice qc80 nc80 cc_80]))))) (alA (al1 (fun h => h rfl)) (alA (al1 q227) (alA (al1 (by have h9 := congrArg List.length hV223; rw [if_neg q227, List.length_map] at h9; have h8 := hO223.len; simp at h9; simp [h9] at h8; omega)) (alA (rd_pre hrow5 _ rfl) (rd_pre hrow6 _ rfl))))) (cD (.bool true) Try.call14 (fun w hw => rowsame_t qa40 na40 ca40 qa80 na80 ca80 (x11.ts.take 17) qb40 nb40 cb40 qb80 nb80 cb80 (x11.ws.take 17) qc40 nc40 cc_40 gl40 qc80 nc80 cc_80 gl80 w (hsa40.kept hw.below) hlx40 (by omega) (hsa80.kept hw.below) hlx80 (by omega) (hsb40.kept hw.below) hly40 (by omega) (hsb80.kept hw.below) hly80 (by omega) (hsc40.kept hw.below) hlc40 (by omega) (fun y hy => (hrg40 y hy).kept hw.below) hg940 (hsc80.kept hw.below) hlc80 (by omega) (fun y hy => (hrg80 y hy).kept hw.below) hg980 (hV80.trans hV40.symm)) (qo0 2 [] [5, 6, 7, 8, 14, 15, 16] [(72, .bool false)] (on_ (ds_ (f_ (at_skip (ds_ (sq_ (sq_ (qa [(1, .no)] [5, 6, 8, 14, 15, 16] [(86, .bool false)] ([¬ (((chkO (x11.ts.take 17) (x11.ws.take 17) (shortG (x11.al.map IntsA.l))) : Int) = (0 : Int))]) (al1 (by omega)) (ds_ (f_ (at_skip (ds_ (sq_ (sq_ (qa0 [] [5, 6, 8, 14, 15, 16] [(88, .int .i64 (n223 : Nat)), (89, .int .i64 0)] (ds_ (at_block ?_)))))))))))))))))))
    have hzf := hO223.facts
    refine At.pick [Y223, Yz223] [0, 1] [] ((Y223 ++ (Yz223 ++ []))) (by kernel_rfl) rfl rfl (at_loop (α := Nat × List EnA × List Ob × Option Addr × Nat × List Ob) [5, 6, 8, 14, 15, 16, 88, 89] (fun ⟨k, lh, Yh, qh, ch, Yi⟩ => [(5, .pointer (some ⟨γ100 0, 0 + 0 * 3, none⟩)), (6, .pointer (some ⟨γ120 0, 0 + 0 * 3, none⟩)), (8, .slice qh n223 ch), (14, .slice (some ⟨b9, o9, none⟩) nr capr), (15, .int .i64 (nr : Nat)), (16, .int .i64 (i : Nat)), (88, .int .i64 (n223 : Nat)), (89, .int .i64 (k : Nat))]) (fun ⟨k, lh, Yh, qh, ch, Yi⟩ => (Yh ++ (Yi ++ []))) (fun ⟨k, lh, Yh, qh, ch, Yi⟩ => k ≤ n223 ∧ SlO 47 Yh qh n223 ch lh ∧ GotE 3 Yi lh) (fun ⟨k, lh, Yh, qh, ch, Yi⟩ => n223 - k) (0, el223, Y223, q223, c223, Yz223) (by kernel_rfl) rfl ⟨Nat.zero_le _, hO223, hG223⟩ ?_)
    rintro ⟨k, lh, Yh, qh, ch, Yi⟩
    rintro ⟨hk, hOh, hGh⟩
    have hlh := hOh.len
    refine sq_ ?_
    by_cases q233 : ((k : Nat) : Int) < ((n223 : Nat) : Int)
    ·
     refine qa [(0, .yes)] [5, 6, 8, 14, 15, 16, 88, 89] [(90, .bool true)] ([((k : Nat) : Int) < ((n223 : Nat) : Int)]) (al1 q233) (ds_ (sq_ (t_ (at_skip (ds_ (sq_ (at_block (sq_ (qa0 [] [5, 6, 8, 14, 15, 16, 88, 89] [(10, .int .i64 (k : Nat))] (ds_ (sq_ ?_)))))))))))
     have hln237 := hOh.len
     obtain ⟨g237, cs237, rfl, rfl, hOw237⟩ := hOh.rowOf (i := k) (by omega)
     obtain ⟨x239, hx239⟩ := get_some (l := lh) (m := k) (by omega)
     refine qa [(2, .at g237 0 k), (4, .go (ownps 0 (0 + k * 6) [.slice x239.p x239.n x239.cap]))] [5, 6, 8, 10, 14, 15, 16, 88, 89] [(97, .int .i64 (x239.n : Nat)), (98, .int .i64 0)] ([(some ⟨g237, 0, none⟩ : Option Addr) = some ⟨g237, 0, none⟩, (k : Nat) = ((k : Nat) : Int), k < n223] ++ (acellsP cs237 (0 + k * 6) [.slice x239.p x239.n x239.cap])) (alA (al2 rfl (al2 rfl (al1 (by omega)))) (rda_pre (hOw237.rdx hOh.len hx239) _ rfl)) (ds_ (at_block ?_))
     obtain ⟨Ya5, Yx5, Yb5, rfl, hOx5, hcut5⟩ := hGh.cutE hx239
     have hnx9 : x239.n = x239.l.length := hOx5.facts.1
     have hfx9 := hOx5.facts.2
     refine At.as (L' := bx g237 cs237 47 :: (Ya5 ++ (Yx5 ++ (Yb5 ++ [])))) (by simp only [List.append_assoc, List.cons_append, List.nil_append]) (At.pick [[bx g237 cs237 47], Ya5, Yx5, Yb5] [0, 1, 2, 3] [] (bx g237 cs237 47 :: (Ya5 ++ (Yx5 ++ (Yb5 ++ [])))) (by kernel_rfl) rfl rfl (at_loop (α := Nat × Option Addr × List Ob × List Int) [5, 6, 8, 10, 14, 15, 16, 88, 89, 97, 98] (fun ⟨j, pm, Ym, lm⟩ => [(5, .pointer (some ⟨γ100 0, 0 + 0 * 3, none⟩)), (6, .pointer (some ⟨γ120 0, 0 + 0 * 3, none⟩)), (8, .slice (some ⟨g237, 0, none⟩) n223 ch), (10, .int .i64 (k : Nat)), (14, .slice (some ⟨b9, o9, none⟩) nr capr), (15, .int .i64 (nr : Nat)), (16, .int .i64 (i : Nat)), (88, .int .i64 (n223 : Nat)), (89, .int .i64 (k : Nat)), (97, .int .i64 (x239.n : Nat)), (98, .int .i64 (j : Nat))]) (fun ⟨j, pm, Ym, lm⟩ => bx g237 cs237 47 :: (Ya5 ++ (Ym ++ (Yb5 ++ [])))) (fun ⟨j, pm, Ym, lm⟩ => j ≤ x239.n ∧ pm = x239.p ∧ SlO 3 Ym pm x239.n x239.cap lm) (fun ⟨j, pm, Ym, lm⟩ => x239.n - j) (0, x239.p, Yx5, x239.l) (by kernel_rfl) rfl ⟨Nat.zero_le _, rfl, hOx5⟩ ?_))
     rintro ⟨j, pm, Ym, lm⟩
     rintro ⟨hj, hpm, hOm⟩
     have hlm := hOm.len
     refine sq_ ?_
     by_cases q242 : ((j : Nat) : Int) < ((x239.n : Nat) : Int)
     ·
      refine qa [(0, .yes)] [5, 6, 8, 10, 14, 15, 16, 88, 89, 97, 98] [(99, .bool true)] ([((j : Nat) : Int) < ((x239.n : Nat) : Int)]) (al1 q242) (ds_ (sq_ (t_ (at_skip (ds_ (sq_ (at_block (sq_ (qa0 [] [5, 6, 8, 10, 14, 15, 16, 88, 89, 97, 98] [(11, .int .i64 (j : Nat))] (ds_ (At.pick [[bx g237 cs237 47], Ya5, Ym, Yb5] [0, 2, 1, 3] [] (bx g237 cs237 47 :: (Ym ++ (Ya5 ++ (Yb5 ++ [])))) (by kernel_rfl) rfl rfl ?_)))))))))))
      have hln245 := hOm.len
      obtain ⟨g245, cs245, rfl, rfl, hOw245⟩ := hOm.rowOf (i := j) (by omega)
      obtain ⟨x247, hx247⟩ := get_some (l := lm) (m := j) (by omega)
      refine ma [(2, .at g237 0 k), (4, .is (ownps 0 (0 + k * 6) [.slice x239.p x239.n x239.cap]) (.slice (some ⟨g245, 0, none⟩) x239.n x239.cap)), (6, .at g245 0 j), (7, .go (ownps 1 (0 + j * 1) [undef]))] [5, 6, 8, 10, 14, 15, 16, 88, 89, 97, 98] (fun _ => []) (fun _ L => (L.set 1 (bx g245 ((cs245).setIfInBounds (0 + j * 1) (.int .i64 99)) 3))) (fun _ => [(some ⟨g237, 0, none⟩ : Option Addr) = some ⟨g237, 0, none⟩, (k : Nat) = ((k : Nat) : Int), k < n223] ++ ([Value.slice x239.p x239.n x239.cap = .slice (some ⟨g245, 0, none⟩) x239.n x239.cap] ++ (acellsP cs237 (0 + k * 6) [.slice x239.p x239.n x239.cap] ++ ([(some ⟨g245, 0, none⟩ : Option Addr) = some ⟨g245, 0, none⟩, (j : Nat) = ((j : Nat) : Int), j < x239.n] ++ ([0 + j * 1 < (cs245).size]))))) (fun _ => (alA (al2 rfl (al2 rfl (al1 (by omega)))) (alA (al1 (by rw [hpm])) (alA (rda_pre (hOw237.rdx hOh.len hx239) _ rfl) (alA (al2 rfl (al2 rfl (al1 (by omega)))) (al1 (hOw245.room hOm.len hx247 (f := 0) (by decide)))))))) (fun _ => done_block (ds_ (qa [(0, .fit)] [5, 6, 8, 10, 14, 15, 16, 88, 89, 97] [(98, .int .i64 (j + 1 : Nat))] ([Fit .i64 ((j + 1 : Nat))]) (al1 (fit64 (by omega) (by omega))) (Done.pick [[bx g237 cs237 47], [bx g245 ((cs245).setIfInBounds (0 + j * 1) (.int .i64 99)) 3], Ya5, Yb5] [0, 2, 1, 3] [] (bx g237 cs237 47 :: (Ya5 ++ ([bx g245 ((cs245).setIfInBounds (0 + j * 1) (.int .i64 99)) 3] ++ (Yb5 ++ [])))) (by kernel_rfl) rfl rfl ?_))))
      exact dr [5, 6, 8, 10, 14, 15, 16, 88, 89, 97, 98] (j + 1, some ⟨g245, 0, none⟩, [bx g245 ((cs245).setIfInBounds (0 + j * 1) (.int .i64 99)) 3], lm.set j 99) ⟨by omega, hpm, (SlO.ofOwn (hOw245.put (x' := 99) hOm.len hx247 (f := 0) (by decide) rfl) (len_set hOm.len))⟩
     ·
      refine qa [(0, .no)] [5, 6, 8, 10, 14, 15, 16, 88, 89, 97, 98] [(99, .bool false)] ([¬ (((j : Nat) : Int) < ((x239.n : Nat) : Int))]) (al1 q242) (ds_ (sq_ (f_ (at_leave _ rfl (done_block (ds_ (qa [(0, .fit)] [5, 6, 8, 14, 15, 16, 88] [(89, .int .i64 (k + 1 : Nat))] ([Fit .i64 ((k + 1 : Nat))]) (al1 (fit64 (by omega) (by omega))) (Done.as (L' := ([bx g237 cs237 47] ++ ((Ya5 ++ (Ym ++ Yb5)) ++ []))) (by simp only [List.append_assoc, List.cons_append, List.nil_append]) ?_))))))))
      subst hpm
      exact dr [5, 6, 8, 14, 15, 16, 88, 89] (k + 1, lh.set k (⟨x239.p, x239.n, x239.cap, lm, x239.th, x239.tl, x239.tw, x239.ord, x239.fresh⟩ : EnA), ([bx g237 cs237 47]), (some ⟨g237, 0, none⟩), ch, Ya5 ++ (Ym ++ Yb5)) ⟨by omega, SlO.retagE hOh hx239 rfl, hcut5 _ (⟨x239.p, x239.n, x239.cap, lm, x239.th, x239.tl, x239.tw, x239.ord, x239.fresh⟩ : EnA) hOm⟩
    ·
     refine qa [(0, .no)] [5, 6, 8, 14, 15, 16, 88, 89] [(90, .bool false)] ([¬ (((k : Nat) : Int) < ((n223 : Nat) : Int))]) (al1 q233) (ds_ (sq_ (f_ (at_leave _ rfl (ds_ (sq_ (ao_ (qo 2 [(0, .go (outs (γ100 0) (0 + 0 * 3) [.slice qa40 na40 ca40, .slice qb40 nb40 cb40, .slice qc40 nc40 cc_40])), (1, .go (outs (γ120 0) (0 + 0 * 3) [.slice qa80 na80 ca80, .slice qb80 nb80 cb80, .slice qc80 nc80 cc_80]))] [14, 15, 16] [(110, .agg #[.slice qa40 na40 ca40, .slice qb40 nb40 cb40, .slice qc40 nc40 cc_40]), (111, .agg #[.slice qa80 na80 ca80, .slice qb80 nb80 cb80, .slice qc80 nc80 cc_80])] (cellsP wR219 (γ100 0) (0 + 0 * 3) [.slice qa40 na40 ca40, .slice qb40 nb40 cb40, .slice qc40 nc40 cc_40] ++ (cellsP wR219 (γ120 0) (0 + 0 * 3) [.slice qa80 na80 ca80, .slice qb80 nb80 cb80, .slice qc80 nc80 cc_80])) (alA (rd_pre hrow5 _ rfl) (rd_pre hrow6 _ rfl)) (cD (.bool true) Try.call14 (fun w hw => rowsame_t qa40 na40 ca40 qa80 na80 ca80 (x11.ts.take 17) qb40 nb40 cb40 qb80 nb80 cb80 (x11.ws.take 17) qc40 nc40 cc_40 gl40 qc80 nc80 cc_80 gl80 w (hsa40.kept hw.below) hlx40 (by omega) (hsa80.kept hw.below) hlx80 (by omega) (hsb40.kept hw.below) hly40 (by omega) (hsb80.kept hw.below) hly80 (by omega) (hsc40.kept hw.below) hlc40 (by omega) (fun y hy => (hrg40 y hy).kept hw.below) hg940 (hsc80.kept hw.below) hlc80 (by omega) (fun y hy => (hrg80 y hy).kept hw.below) hg980 (hV80.trans hV40.symm)) (qo0 1 [] [14, 15, 16] [(113, .bool false)] (on_ (ds_ (f_ (at_skip (done_block (ds_ (qa [(0, .fit)] [14, 15] [(16, .int .i64 (i + 1 : Nat))] ([Fit .i64 ((i + 1 : Nat))]) (al1 (fit64 (by omega) (by omega))) (Done.drop (L' := []) ?_ ((List.sublist_append_right _ _).trans (List.sublist_append_right _ _))))))))))))))))))))
     refine done_unbase hS219 ?_
     exact done_round [14, 15, 16] (i + 1) (by kernel_rfl) rfl (by show i + 1 ≤ nr; omega) (by first | omega | (simp only; omega))
   ·
    refine qo 15 [(12, .no), (16, .no), (24, .go (outs (γ100 0) (0 + 0 * 3) [.slice qa40 na40 ca40, .slice qb40 nb40 cb40, .slice qc40 nc40 cc_40])), (25, .go (outs (γ120 0) (0 + 0 * 3) [.slice qa80 na80 ca80, .slice qb80 nb80 cb80, .slice qc80 nc80 cc_80]))] [5, 6, 7, 8, 14, 15, 16] [(67, .bool false), (68, .agg #[.slice qa40 na40 ca40, .slice qb40 nb40 cb40, .slice qc40 nc40 cc_40]), (69, .agg #[.slice qa80 na80 ca80, .slice qb80 nb80 cb80, .slice qc80 nc80 cc_80])] ([¬ (((chkO (x11.ts.take 17) (x11.ws.take 17) (shortG (x11.al.map IntsA.l))) : Int) ≠ ((chkO (x11.ts.take 17) (x11.ws.take 17) (shortG (x11.al.map IntsA.l))) : Int))] ++ ([¬ (((chkO (x11.ts.take 17) (x11.ws.take 17) (shortG (x11.al.map IntsA.l))) : Int) ≠ (0 : Int))] ++ (cellsP wR219 (γ100 0) (0 + 0 * 3) [.slice qa40 na40 ca40, .slice qb40 nb40 cb40, .slice qc40 nc40 cc_40] ++ (cellsP wR219 (γ120 0) (0 + 0 * 3) [.slice qa80 na80 ca80, .slice qb80 nb80 cb80, .slice qc80 nc80 cc_80])))) (alA (al1 (fun h => h rfl)) (alA (al1 q227) (alA (rd_pre hrow5 _ rfl) (rd_pre hrow6 _ rfl)))) (cD (.bool true) Try.call14 (fun w hw => rowsame_t qa40 na40 ca40 qa80 na80 ca80 (x11.ts.take 17) qb40 nb40 cb40 qb80 nb80 cb80 (x11.ws.take 17) qc40 nc40 cc_40 gl40 qc80 nc80 cc_80 gl80 w (hsa40.kept hw.below) hlx40 (by omega) (hsa80.kept hw.below) hlx80 (by omega) (hsb40.kept hw.below) hly40 (by omega) (hsb80.kept hw.below) hly80 (by omega) (hsc40.kept hw.below) hlc40 (by omega) (fun y hy => (hrg40 y hy).kept hw.below) hg940 (hsc80.kept hw.below) hlc80 (by omega) (fun y hy => (hrg80 y hy).kept hw.below) hg980 (hV80.trans hV40.symm)) (qo0 2 [] [5, 6, 7, 8, 14, 15, 16] [(72, .bool false)] (on_ (ds_ (f_ (at_skip (ds_ (sq_ (sq_ ?_)))))))))
    have hck9 : (chkO (x11.ts.take 17) (x11.ws.take 17) (shortG (x11.al.map IntsA.l))) = 0 := by omega
    have hVd223 : el223.map EnA.val = (docV (x11.ts.take 17) (x11.ws.take 17) (shortG (x11.al.map IntsA.l))) := by rw [hV223, if_pos hck9]
    refine ao_ (qo 10 [(1, .yes), (5, .go (outs (γ120 0) (0 + 0 * 3) [.slice qa80 na80 ca80])), (7, .go (outs (γ120 0) (0 + 0 * 3 + 1) [.slice qb80 nb80 cb80])), (9, .go (outs (γ120 0) (0 + 0 * 3 + 2) [.slice qc80 nc80 cc_80]))] [5, 6, 8, 14, 15, 16] [(75, .bool true), (76, .slice q223 n223 c223), (78, .agg #[.slice qa80 na80 ca80]), (80, .slice qb80 nb80 cb80), (82, .slice qc80 nc80 cc_80)] ([((chkO (x11.ts.take 17) (x11.ws.take 17) (shortG (x11.al.map IntsA.l))) : Int) = (0 : Int)] ++ (cellsP wR219 (γ120 0) (0 + 0 * 3) [.slice qa80 na80 ca80] ++ (cellsP wR219 (γ120 0) (0 + 0 * 3 + 1) [.slice qb80 nb80 cb80] ++ (cellsP wR219 (γ120 0) (0 + 0 * 3 + 2) [.slice qc80 nc80 cc_80])))) (alA (al1 (by omega)) (alA (rd_pre hrow6 _ rfl) (alA (rd_part hrow6 1 _ rfl) (rd_part hrow6 2 _ rfl)))) (cP (fun v L' => ∃ q_ n_ c_ Y_ Z_ el_, v = .slice q_ n_ c_ ∧ L' = List.take 0 ((Y223 ++ (Yz223 ++ []))) ++ (Y_ ++ (Z_ ++ List.drop 0 ((Y223 ++ (Yz223 ++ []))))) ∧ SlO 47 Y_ q_ n_ c_ el_ ∧ GotE 3 Z_ el_ ∧ el_.map EnA.val = (docV (x11.ts.take 17) (x11.ws.take 17) (shortG (x11.al.map IntsA.l))) ∧ (∀ x ∈ el_, x.U)) Try.call16 (fun w hw => (rents_t qa80 na80 ca80 (x11.ts.take 17) qb80 nb80 cb80 (x11.ws.take 17) qc80 nc80 cc_80 gl80 w (hsa80.kept hw.below) hlx80 (by omega) (take_U hUx) (hsb80.kept hw.below) hly80 (by omega) (fun y hy => hWx y (List.mem_of_mem_take hy)) (hsc80.kept hw.below) hlc80 (by omega) (fun y hy => (hrg80 y hy).kept hw.below) hg980 (wt_len (co_iff.1 hck9).2.1) (fun r hr => ((chk_iff.1 (co_iff.1 hck9).1).bnd hr).2.2.2.2)).mono fun e w' ⟨q_, n_, c_, Y_, Z_, el_, he, hO, hG, hV, hU, hb, hY⟩ => by rw [hV80] at hV; exact ⟨_, _, he, ⟨q_, n_, c_, Y_, Z_, el_, rfl, rfl, hO, hG, hV, hU⟩, hs_re (hw.join hb hY 0)⟩) ?_))
    rintro v259 L259 ⟨q259, n259, c259, Y259, Yz259, el259, rfl, rfl, hO259, hG259, hV259, hE259⟩
    refine cD (.bool true) Try.call15 (fun w hw => by have := esame_t q223 n223 c223 el223 q259 n259 c259 el259 w (hO223.at ((hw.tailN 0).sub ((List.sublist_append_right Yz259 _).trans (List.sublist_append_right Y259 _)))) hO223.len (by have h1 := congrArg List.length hV223; rw [List.length_map] at h1; have h2 := hO223.len; have h3 := doc_small hck9; first | omega | (rw [if_pos hck9] at h1; omega)) (GotE.reads hG223 hE223 hw (List.Sublist.trans (List.Sublist.trans (List.Sublist.trans (List.sublist_append_left Yz223 _) (List.sublist_append_right Y223 _)) (List.sublist_append_right Yz259 _)) (List.sublist_append_right Y259 _))) (fun y hy => by have h1 := ents_small (ts := (x11.ts.take 17)) (ws := (x11.ws.take 17)) (gs := (shortG (x11.al.map IntsA.l))) (e := y.val) (by rw [if_pos hck9, ← hVd223]; exact List.mem_map_of_mem hy); have h2 := ((GotE.reads hG223 hE223 hw (List.Sublist.trans (List.Sublist.trans (List.Sublist.trans (List.sublist_append_left Yz223 _) (List.sublist_append_right Y223 _)) (List.sublist_append_right Yz259 _)) (List.sublist_append_right Y259 _))) y hy).hn; have h3 : y.l.length ≤ 1000 := h1; omega) (hO259.atN (A := []) hw) hO259.len (by have h1 := congrArg List.length hV259; rw [List.length_map] at h1; have h2 := hO259.len; have h3 := doc_small hck9; first | omega | (rw [if_pos hck9] at h1; omega)) (GotE.reads hG259 hE259 hw (List.Sublist.trans (List.sublist_append_left Yz259 _) (List.sublist_append_right Y259 _))) (fun y hy => by have h1 := ents_small (ts := (x11.ts.take 17)) (ws := (x11.ws.take 17)) (gs := (shortG (x11.al.map IntsA.l))) (e := y.val) (by rw [if_pos hck9, ← hV259]; exact List.mem_map_of_mem hy); have h2 := ((GotE.reads hG259 hE259 hw (List.Sublist.trans (List.sublist_append_left Yz259 _) (List.sublist_append_right Y259 _))) y hy).hn; have h3 : y.l.length ≤ 1000 := h1; omega); rw [decide_eq_true (hVd223.trans hV259.symm)] at this; exact this) (qo0 2 [] [5, 6, 8, 14, 15, 16] [(86, .bool false)] (on_ (ds_ (f_ (at_skip (ds_ (sq_ (sq_ (qa0 [] [5, 6, 8, 14, 15, 16] [(88, .int .i64 (n223 : Nat)), (89, .int .i64 0)] (ds_ (at_block ?_)))))))))))
    have hzf := hO223.facts
    refine At.pick [Y259, Yz259, Y223, Yz223] [2, 3] [0, 1] ((Y223 ++ (Yz223 ++ []))) (by kernel_rfl) rfl rfl (at_loop (α := Nat × List EnA × List Ob × Option Addr × Nat × List Ob) [5, 6, 8, 14, 15, 16, 88, 89] (fun ⟨k, lh, Yh, qh, ch, Yi⟩ => [(5, .pointer (some ⟨γ100 0, 0 + 0 * 3, none⟩)), (6, .pointer (some ⟨γ120 0, 0 + 0 * 3, none⟩)), (8, .slice qh n223 ch), (14, .slice (some ⟨b9, o9, none⟩) nr capr), (15, .int .i64 (nr : Nat)), (16, .int .i64 (i : Nat)), (88, .int .i64 (n223 : Nat)), (89, .int .i64 (k : Nat))]) (fun ⟨k, lh, Yh, qh, ch, Yi⟩ => (Yh ++ (Yi ++ []))) (fun ⟨k, lh, Yh, qh, ch, Yi⟩ => k ≤ n223 ∧ SlO 47 Yh qh n223 ch lh ∧ GotE 3 Yi lh) (fun ⟨k, lh, Yh, qh, ch, Yi⟩ => n223 - k) (0, el223, Y223, q223, c223, Yz223) (by kernel_rfl) rfl ⟨Nat.zero_le _, hO223, hG223⟩ ?_)
    rintro ⟨k, lh, Yh, qh, ch, Yi⟩
    rintro ⟨hk, hOh, hGh⟩
    have hlh := hOh.len
    refine sq_ ?_
    by_cases q264 : ((k : Nat) : Int) < ((n223 : Nat) : Int)
    ·
     refine qa [(0, .yes)] [5, 6, 8, 14, 15, 16, 88, 89] [(90, .bool true)] ([((k : Nat) : Int) < ((n223 : Nat) : Int)]) (al1 q264) (ds_ (sq_ (t_ (at_skip (ds_ (sq_ (at_block (sq_ (qa0 [] [5, 6, 8, 14, 15, 16, 88, 89] [(10, .int .i64 (k : Nat))] (ds_ (sq_ ?_)))))))))))
     have hln268 := hOh.len
     obtain ⟨g268, cs268, rfl, rfl, hOw268⟩ := hOh.rowOf (i := k) (by omega)
     obtain ⟨x270, hx270⟩ := get_some (l := lh) (m := k) (by omega)
     refine qa [(2, .at g268 0 k), (4, .go (ownps 0 (0 + k * 6) [.slice x270.p x270.n x270.cap]))] [5, 6, 8, 10, 14, 15, 16, 88, 89] [(97, .int .i64 (x270.n : Nat)), (98, .int .i64 0)] ([(some ⟨g268, 0, none⟩ : Option Addr) = some ⟨g268, 0, none⟩, (k : Nat) = ((k : Nat) : Int), k < n223] ++ (acellsP cs268 (0 + k * 6) [.slice x270.p x270.n x270.cap])) (alA (al2 rfl (al2 rfl (al1 (by omega)))) (rda_pre (hOw268.rdx hOh.len hx270) _ rfl)) (ds_ (at_block ?_))
     obtain ⟨Ya5, Yx5, Yb5, rfl, hOx5, hcut5⟩ := hGh.cutE hx270
     have hnx9 : x270.n = x270.l.length := hOx5.facts.1
     have hfx9 := hOx5.facts.2
     refine At.as (L' := bx g268 cs268 47 :: (Ya5 ++ (Yx5 ++ (Yb5 ++ [])))) (by simp only [List.append_assoc, List.cons_append, List.nil_append]) (At.pick [[bx g268 cs268 47], Ya5, Yx5, Yb5] [0, 1, 2, 3] [] (bx g268 cs268 47 :: (Ya5 ++ (Yx5 ++ (Yb5 ++ [])))) (by kernel_rfl) rfl rfl (at_loop (α := Nat × Option Addr × List Ob × List Int) [5, 6, 8, 10, 14, 15, 16, 88, 89, 97, 98] (fun ⟨j, pm, Ym, lm⟩ => [(5, .pointer (some ⟨γ100 0, 0 + 0 * 3, none⟩)), (6, .pointer (some ⟨γ120 0, 0 + 0 * 3, none⟩)), (8, .slice (some ⟨g268, 0, none⟩) n223 ch), (10, .int .i64 (k : Nat)), (14, .slice (some ⟨b9, o9, none⟩) nr capr), (15, .int .i64 (nr : Nat)), (16, .int .i64 (i : Nat)), (88, .int .i64 (n223 : Nat)), (89, .int .i64 (k : Nat)), (97, .int .i64 (x270.n : Nat)), (98, .int .i64 (j : Nat))]) (fun ⟨j, pm, Ym, lm⟩ => bx g268 cs268 47 :: (Ya5 ++ (Ym ++ (Yb5 ++ [])))) (fun ⟨j, pm, Ym, lm⟩ => j ≤ x270.n ∧ pm = x270.p ∧ SlO 3 Ym pm x270.n x270.cap lm) (fun ⟨j, pm, Ym, lm⟩ => x270.n - j) (0, x270.p, Yx5, x270.l) (by kernel_rfl) rfl ⟨Nat.zero_le _, rfl, hOx5⟩ ?_))
     rintro ⟨j, pm, Ym, lm⟩
     rintro ⟨hj, hpm, hOm⟩
     have hlm := hOm.len
     refine sq_ ?_
     by_cases q273 : ((j : Nat) : Int) < ((x270.n : Nat) : Int)
     ·
      refine qa [(0, .yes)] [5, 6, 8, 10, 14, 15, 16, 88, 89, 97, 98] [(99, .bool true)] ([((j : Nat) : Int) < ((x270.n : Nat) : Int)]) (al1 q273) (ds_ (sq_ (t_ (at_skip (ds_ (sq_ (at_block (sq_ (qa0 [] [5, 6, 8, 10, 14, 15, 16, 88, 89, 97, 98] [(11, .int .i64 (j : Nat))] (ds_ (At.pick [[bx g268 cs268 47], Ya5, Ym, Yb5] [0, 2, 1, 3] [] (bx g268 cs268 47 :: (Ym ++ (Ya5 ++ (Yb5 ++ [])))) (by kernel_rfl) rfl rfl ?_)))))))))))
      have hln276 := hOm.len
      obtain ⟨g276, cs276, rfl, rfl, hOw276⟩ := hOm.rowOf (i := j) (by omega)
      obtain ⟨x278, hx278⟩ := get_some (l := lm) (m := j) (by omega)
      refine ma [(2, .at g268 0 k), (4, .is (ownps 0 (0 + k * 6) [.slice x270.p x270.n x270.cap]) (.slice (some ⟨g276, 0, none⟩) x270.n x270.cap)), (6, .at g276 0 j), (7, .go (ownps 1 (0 + j * 1) [undef]))] [5, 6, 8, 10, 14, 15, 16, 88, 89, 97, 98] (fun _ => []) (fun _ L => (L.set 1 (bx g276 ((cs276).setIfInBounds (0 + j * 1) (.int .i64 99)) 3))) (fun _ => [(some ⟨g268, 0, none⟩ : Option Addr) = some ⟨g268, 0, none⟩, (k : Nat) = ((k : Nat) : Int), k < n223] ++ ([Value.slice x270.p x270.n x270.cap = .slice (some ⟨g276, 0, none⟩) x270.n x270.cap] ++ (acellsP cs268 (0 + k * 6) [.slice x270.p x270.n x270.cap] ++ ([(some ⟨g276, 0, none⟩ : Option Addr) = some ⟨g276, 0, none⟩, (j : Nat) = ((j : Nat) : Int), j < x270.n] ++ ([0 + j * 1 < (cs276).size]))))) (fun _ => (alA (al2 rfl (al2 rfl (al1 (by omega)))) (alA (al1 (by rw [hpm])) (alA (rda_pre (hOw268.rdx hOh.len hx270) _ rfl) (alA (al2 rfl (al2 rfl (al1 (by omega)))) (al1 (hOw276.room hOm.len hx278 (f := 0) (by decide)))))))) (fun _ => done_block (ds_ (qa [(0, .fit)] [5, 6, 8, 10, 14, 15, 16, 88, 89, 97] [(98, .int .i64 (j + 1 : Nat))] ([Fit .i64 ((j + 1 : Nat))]) (al1 (fit64 (by omega) (by omega))) (Done.pick [[bx g268 cs268 47], [bx g276 ((cs276).setIfInBounds (0 + j * 1) (.int .i64 99)) 3], Ya5, Yb5] [0, 2, 1, 3] [] (bx g268 cs268 47 :: (Ya5 ++ ([bx g276 ((cs276).setIfInBounds (0 + j * 1) (.int .i64 99)) 3] ++ (Yb5 ++ [])))) (by kernel_rfl) rfl rfl ?_))))
      exact dr [5, 6, 8, 10, 14, 15, 16, 88, 89, 97, 98] (j + 1, some ⟨g276, 0, none⟩, [bx g276 ((cs276).setIfInBounds (0 + j * 1) (.int .i64 99)) 3], lm.set j 99) ⟨by omega, hpm, (SlO.ofOwn (hOw276.put (x' := 99) hOm.len hx278 (f := 0) (by decide) rfl) (len_set hOm.len))⟩
     ·
      refine qa [(0, .no)] [5, 6, 8, 10, 14, 15, 16, 88, 89, 97, 98] [(99, .bool false)] ([¬ (((j : Nat) : Int) < ((x270.n : Nat) : Int))]) (al1 q273) (ds_ (sq_ (f_ (at_leave _ rfl (done_block (ds_ (qa [(0, .fit)] [5, 6, 8, 14, 15, 16, 88] [(89, .int .i64 (k + 1 : Nat))] ([Fit .i64 ((k + 1 : Nat))]) (al1 (fit64 (by omega) (by omega))) (Done.as (L' := ([bx g268 cs268 47] ++ ((Ya5 ++ (Ym ++ Yb5)) ++ []))) (by simp only [List.append_assoc, List.cons_append, List.nil_append]) ?_))))))))
      subst hpm
      exact dr [5, 6, 8, 14, 15, 16, 88, 89] (k + 1, lh.set k (⟨x270.p, x270.n, x270.cap, lm, x270.th, x270.tl, x270.tw, x270.ord, x270.fresh⟩ : EnA), ([bx g268 cs268 47]), (some ⟨g268, 0, none⟩), ch, Ya5 ++ (Ym ++ Yb5)) ⟨by omega, SlO.retagE hOh hx270 rfl, hcut5 _ (⟨x270.p, x270.n, x270.cap, lm, x270.th, x270.tl, x270.tw, x270.ord, x270.fresh⟩ : EnA) hOm⟩
    ·
     refine qa [(0, .no)] [5, 6, 8, 14, 15, 16, 88, 89] [(90, .bool false)] ([¬ (((k : Nat) : Int) < ((n223 : Nat) : Int))]) (al1 q264) (ds_ (sq_ (f_ (at_leave _ rfl (ds_ (sq_ (ao_ (qo 2 [(0, .go (outs (γ100 0) (0 + 0 * 3) [.slice qa40 na40 ca40, .slice qb40 nb40 cb40, .slice qc40 nc40 cc_40])), (1, .go (outs (γ120 0) (0 + 0 * 3) [.slice qa80 na80 ca80, .slice qb80 nb80 cb80, .slice qc80 nc80 cc_80]))] [14, 15, 16] [(110, .agg #[.slice qa40 na40 ca40, .slice qb40 nb40 cb40, .slice qc40 nc40 cc_40]), (111, .agg #[.slice qa80 na80 ca80, .slice qb80 nb80 cb80, .slice qc80 nc80 cc_80])] (cellsP wR219 (γ100 0) (0 + 0 * 3) [.slice qa40 na40 ca40, .slice qb40 nb40 cb40, .slice qc40 nc40 cc_40] ++ (cellsP wR219 (γ120 0) (0 + 0 * 3) [.slice qa80 na80 ca80, .slice qb80 nb80 cb80, .slice qc80 nc80 cc_80])) (alA (rd_pre hrow5 _ rfl) (rd_pre hrow6 _ rfl)) (cD (.bool true) Try.call14 (fun w hw => rowsame_t qa40 na40 ca40 qa80 na80 ca80 (x11.ts.take 17) qb40 nb40 cb40 qb80 nb80 cb80 (x11.ws.take 17) qc40 nc40 cc_40 gl40 qc80 nc80 cc_80 gl80 w (hsa40.kept hw.below) hlx40 (by omega) (hsa80.kept hw.below) hlx80 (by omega) (hsb40.kept hw.below) hly40 (by omega) (hsb80.kept hw.below) hly80 (by omega) (hsc40.kept hw.below) hlc40 (by omega) (fun y hy => (hrg40 y hy).kept hw.below) hg940 (hsc80.kept hw.below) hlc80 (by omega) (fun y hy => (hrg80 y hy).kept hw.below) hg980 (hV80.trans hV40.symm)) (qo0 1 [] [14, 15, 16] [(113, .bool false)] (on_ (ds_ (f_ (at_skip (done_block (ds_ (qa [(0, .fit)] [14, 15] [(16, .int .i64 (i + 1 : Nat))] ([Fit .i64 ((i + 1 : Nat))]) (al1 (fit64 (by omega) (by omega))) (Done.drop (L' := []) ?_ ((List.sublist_append_right _ _).trans (List.sublist_append_right _ _))))))))))))))))))))
     refine done_unbase hS219 ?_
     exact done_round [14, 15, 16] (i + 1) (by kernel_rfl) rfl (by show i + 1 ≤ nr; omega) (by first | omega | (simp only; omega))
 ·
  refine qa [(0, .no)] [14, 15, 16] [(17, .bool false)] ([¬ (((i : Nat) : Int) < ((nr : Nat) : Int))]) (al1 q6) (ds_ (sq_ (f_ (at_leave _ rfl (ds_ (sq_ (qa0 [] [] [(2, .bool true)] (ds_ (rt ([]) (.bool true) ?_)))))))))
  exact fun w' hw => ⟨rfl, hw.below⟩
end Go.Proofs.Ytoljahfofkmdaaa

/-! The walker: what a row's inputs are: slices and structs, opened into lists. -/
namespace Go.Proofs.Ytoljahfofkmdaaa
open Go Go.RowKit

section
variable {H : Type} {enc : TypeId × Value → H} {P : Program} {w : World} {base : Nat} {spare : Nat → Bool} {held : Bool}
theorem spot_none {a : Addr} (h : a.spot = none) : a = ⟨a.block, a.off, none⟩ := by
  cases a
  simp at h
  simp [h]
theorem trod_sv {α : Type} [Enc α] {t e : TypeId} {fuel : Nat} {cs : List Value} {x : DataW H × List MemPlace} {Good : α → Prop} (ht : P.underlying t = some (.slice e)) (hc : P.cellsOf e = Enc.k α)
    (hopen : ∀ (fuel : Nat) (cs : List Value) (x : DataW H × List MemPlace), DataW.trod enc P w base spare held fuel e cs = some x → ∃ a : α, cs = Enc.enc a ∧ Good a) (h : DataW.trod enc P w base spare held fuel t cs = some x) :
    ∃ (p : Option Addr) (n cap : Nat) (l : List α), cs = [.slice p n cap] ∧ Sv w p l ∧ n = l.length ∧ n ≤ cap ∧ cap ≤ maxLen ∧ ∀ y ∈ l, Good y := by
  rcases Deep.open_slice ht h with ⟨hcs, _⟩ | ⟨a, len, cap, m, n', D, Pl, hcs, _, hle, hmx, hm, _, hi⟩
  · exact ⟨none, 0, 0, [], hcs, Sv.nil, rfl, Nat.le_refl _, Nat.zero_le _, fun y hy => by cases hy⟩
  · have key : ∀ i, i < len → ∃ y : α, w.cells? base (a.add (i * Enc.k α)) (Enc.k α) = some (Enc.enc y) ∧ Good y := fun i hin => by
      have him : i < m := by rw [hm]; split <;> omega
      obtain ⟨cs', h1, h2⟩ := hi i him
      obtain ⟨y, rfl, hy⟩ := hopen _ _ _ h2
      rw [hc] at h1
      exact ⟨y, h1, hy⟩
    rcases Nat.eq_zero_or_pos len with h0 | h0
    · subst h0
      exact ⟨some a, 0, cap, [], hcs, Sv.nil, rfl, hle, hmx, fun y hy => by cases hy⟩
    · obtain ⟨y0, hy0, _⟩ := key 0 h0
      haveI : Inhabited α := ⟨y0⟩
      obtain ⟨f, hf⟩ := Deep.choose_lt key
      obtain ⟨_, _, hcell⟩ := World.cells?_some hy0
      have h00 := hcell 0 Enc.pos
      have hlen0 : 0 < (Enc.enc y0).length := by rw [Enc.len]; exact Enc.pos
      rw [List.getElem?_eq_getElem hlen0, Nat.zero_mul, show (a.add 0).add 0 = a by simp [Addr.add]] at h00
      have hsp := spot_none (World.cell?_spot h00)
      refine ⟨some a, len, cap, (List.range len).map f, hcs, ⟨fun _ => ⟨a.block, a.off, by rw [← hsp]⟩, fun b o hbo i hil => ?_⟩, by simp, hle, hmx, fun y hy => ?_⟩
      · have hil' : i < len := by simpa using hil
        obtain ⟨_, _, hc2⟩ := World.cells?_some (hf i hil').1
        have ha : a = ⟨b, o, none⟩ := by simpa using hbo
        subst ha
        intro j v hj
        have hjk : j < Enc.k α := by rw [← Enc.len (f i)]; have := (List.getElem?_eq_some_iff.1 hj).1; simpa using this
        have h3 := hc2 j hjk
        rw [Deep.add_add] at h3
        have h4 : (Enc.enc (f i))[j]? = some v := by simpa using hj
        rw [h4] at h3
        have h5 : (⟨b, o, none⟩ : Addr).add (i * Enc.k α + j) = ⟨b, o + i * Enc.k α + j, none⟩ := by
          unfold Addr.add; split <;> simp_all <;> omega
        rw [h5] at h3
        exact h3
      · obtain ⟨i, hir, rfl⟩ := List.mem_map.1 hy
        exact (hf i (List.mem_range.1 hir)).2
theorem list2' {α : Type} {cs : List α} (h : cs.length = 2) : ∃ c0 c1, cs = [c0, c1] := by
  match cs, h with
  | [a, b], _ => exact ⟨a, b, rfl⟩
theorem trod_int1 {t : TypeId} {fuel : Nat} {cs : List Value} {x : DataW H × List MemPlace} (ht : P.underlying t = some (.int .i64)) (h : DataW.trod enc P w base spare held fuel t cs = some x) : ∃ a : Int, cs = Enc.enc a ∧ True := by
  obtain ⟨a, rfl, _, _⟩ := DataW.trod_int ht h
  exact ⟨a, rfl, trivial⟩
end
end Go.Proofs.Ytoljahfofkmdaaa

/-! Chapter 10: what the rows' inputs are. -/
namespace Go.Proofs.Ytoljahfofkmdaaa
open Go Go.RowKit Go.ChangeShapes Go.WideShapes

section
variable {H : Type} {enc : TypeId × Value → H} {w : World} {base : Nat} {spare : Nat → Bool} {held : Bool}
theorem cInt0 : Try.prog.cellsOf 3 = 1 := by kernel_rfl
theorem cU64 : Try.prog.cellsOf 41 = 1 := by kernel_rfl
theorem cWid : Try.prog.cellsOf 43 = 2 := by kernel_rfl
theorem cFra : Try.prog.cellsOf 45 = 3 := by kernel_rfl
theorem cRun : Try.prog.cellsOf 67 = 5 := by kernel_rfl
theorem list3u {α : Type} {cs : List α} (h : cs.length = 3) : ∃ a b c, cs = [a, b, c] := by
  match cs, h with
  | [a, b, c], _ => exact ⟨a, b, c, rfl⟩
theorem list5u {α : Type} {cs : List α} (h : cs.length = 5) : ∃ a b c d e, cs = [a, b, c, d, e] := by
  match cs, h with
  | [a, b, c, d, e], _ => exact ⟨a, b, c, d, e, rfl⟩
theorem u64_wf {n : Int} (h : (Lit.int .u64 n).wf = true) : 0 ≤ n ∧ n < 18446744073709551616 := by
  simp only [Lit.wf, Bool.and_eq_true, decide_eq_true_eq] at h
  have h1 : (0 : Int) ≤ n := h.1
  have h2 : n ≤ 18446744073709551615 := h.2
  omega
theorem i64_wf {n : Int} (h : (Lit.int .i64 n).wf = true) : -9223372036854775808 ≤ n ∧ n ≤ 9223372036854775807 := by
  simp only [Lit.wf, Bool.and_eq_true, decide_eq_true_eq] at h
  exact ⟨h.1, h.2⟩
set_option maxRecDepth 100000 in
theorem wide_open {fuel : Nat} {cs : List Value} {x : DataW H × List MemPlace} (h : DataW.trod enc Try.prog w base spare held fuel 43 cs = some x) : ∃ a b : Int, cs = [.int .u64 a, .int .u64 b] ∧ (0 ≤ a ∧ a < 18446744073709551616) ∧ (0 ≤ b ∧ b < 18446744073709551616) := by
  obtain ⟨xs, n, _, rfl, hl, hlen, hf⟩ := DataW.trod_struct Try.underlying43 h
  rw [cWid] at hl
  obtain ⟨c0, c1, rfl⟩ := list2' hl
  obtain ⟨y0, y1, rfl⟩ := list2' hlen
  have h0 : DataW.trod enc Try.prog w base spare held n 41 (([c0, c1].drop 0).take (Try.prog.cellsOf 41)) = some y0 := hf 0 _ rfl
  have h1 : DataW.trod enc Try.prog w base spare held n 41 (([c0, c1].drop 1).take (Try.prog.cellsOf 41)) = some y1 := hf 1 _ rfl
  clear hf hl hlen h
  rw [cU64] at h0 h1
  simp only [List.drop_zero, List.take_succ_cons, List.take_zero, List.drop_succ_cons] at h0 h1
  obtain ⟨a, e0, _, f0⟩ := DataW.trod_int Try.underlying41 h0
  obtain ⟨b, e1, _, f1⟩ := DataW.trod_int Try.underlying41 h1
  simp only [List.cons.injEq, and_true] at e0 e1
  subst e0; subst e1
  exact ⟨a, b, rfl, u64_wf f0, u64_wf f1⟩
set_option maxRecDepth 100000 in
theorem fq_open {fuel : Nat} {cs : List Value} {x : DataW H × List MemPlace} (h : DataW.trod enc Try.prog w base spare held fuel 45 cs = some x) : ∃ a : Fq, cs = Enc.enc a ∧ a.U := by
  obtain ⟨xs, n, _, rfl, hl, hlen, hf⟩ := DataW.trod_struct Try.underlying45 h
  rw [cFra] at hl
  obtain ⟨c0, c1, c2, rfl⟩ := list3u hl
  obtain ⟨y0, y1, rfl⟩ := list2' hlen
  have h0 : DataW.trod enc Try.prog w base spare held n 43 (([c0, c1, c2].drop 0).take (Try.prog.cellsOf 43)) = some y0 := hf 0 _ rfl
  have h1 : DataW.trod enc Try.prog w base spare held n 41 (([c0, c1, c2].drop 2).take (Try.prog.cellsOf 41)) = some y1 := hf 1 _ rfl
  clear hf hl hlen h
  rw [cWid] at h0
  rw [cU64] at h1
  simp only [List.drop_zero, List.take_succ_cons, List.take_zero, List.drop_succ_cons] at h0 h1
  obtain ⟨a, b, e0, fa, fb⟩ := wide_open h0
  obtain ⟨c, e1, _, f1⟩ := DataW.trod_int Try.underlying41 h1
  simp only [List.cons.injEq, and_true] at e0 e1
  obtain ⟨rfl, rfl⟩ := e0
  subst e1
  have fc := u64_wf f1
  exact ⟨⟨a, b, c⟩, rfl, ⟨fa.1, fa.2, fb.1, fb.2, fc.1, fc.2⟩⟩
set_option maxRecDepth 100000 in
theorem rn_open {fuel : Nat} {cs : List Value} {x : DataW H × List MemPlace} (h : DataW.trod enc Try.prog w base spare held fuel 67 cs = some x) : ∃ a : Rn, cs = Enc.enc a ∧ a.U := by
  obtain ⟨xs, n, _, rfl, hl, hlen, hf⟩ := DataW.trod_struct Try.underlying67 h
  rw [cRun] at hl
  obtain ⟨c0, c1, c2, c3, c4, rfl⟩ := list5u hl
  obtain ⟨y0, y1, y2, rfl⟩ := list3u hlen
  have h0 : DataW.trod enc Try.prog w base spare held n 3 (([c0, c1, c2, c3, c4].drop 0).take (Try.prog.cellsOf 3)) = some y0 := hf 0 _ rfl
  have h1 : DataW.trod enc Try.prog w base spare held n 3 (([c0, c1, c2, c3, c4].drop 1).take (Try.prog.cellsOf 3)) = some y1 := hf 1 _ rfl
  have h2 : DataW.trod enc Try.prog w base spare held n 45 (([c0, c1, c2, c3, c4].drop 2).take (Try.prog.cellsOf 45)) = some y2 := hf 2 _ rfl
  clear hf hl hlen h
  rw [cInt0] at h0 h1
  rw [cFra] at h2
  simp only [List.drop_zero, List.take_succ_cons, List.take_zero, List.drop_succ_cons] at h0 h1 h2
  obtain ⟨a, e0, _, f0⟩ := DataW.trod_int Try.underlying3 h0
  obtain ⟨b, e1, _, f1⟩ := DataW.trod_int Try.underlying3 h1
  obtain ⟨t, e2, ht⟩ := fq_open h2
  simp only [List.cons.injEq, and_true] at e0 e1
  subst e0; subst e1
  have e2' : [c2, c3, c4] = [.int .u64 t.hi, .int .u64 t.lo, .int .u64 t.w] := e2
  simp only [List.cons.injEq, and_true] at e2'
  obtain ⟨rfl, rfl, rfl⟩ := e2'
  have g0 := i64_wf f0
  have g1 := i64_wf f1
  exact ⟨⟨a, b, t.hi, t.lo, t.w⟩, rfl, ⟨g0.1, g0.2, g1.1, g1.2, ht⟩⟩
end
end Go.Proofs.Ytoljahfofkmdaaa

/-! Chapter 12: what the rows' inputs are. -/
namespace Go.Proofs.Ytoljahfofkmdaaa
open Go Go.RowKit Go.ChangeShapes Go.WideShapes
section
variable {H : Type} {enc : TypeId × Value → H} {w : World} {base : Nat} {spare : Nat → Bool} {held : Bool}
theorem cIntsO : Try.prog.cellsOf 40 = 1 := by kernel_rfl
theorem cBoolO : Try.prog.cellsOf 4 = 1 := by kernel_rfl
set_option maxRecDepth 100000 in
theorem intsA_open {fuel : Nat} {cs : List Value} {x : DataW H × List MemPlace} (h : DataW.trod enc Try.prog w base spare held fuel 40 cs = some x) : ∃ a : IntsA, cs = Enc.enc a ∧ a.Reads w := by
  obtain ⟨p, m, cap, l, he, hs, hn, hle, hmx, _⟩ := trod_sv (α := Int) (Good := fun _ => True) Try.underlying40 cInt0 (fun _ _ _ h => trod_int1 Try.underlying3 h) h
  exact ⟨⟨p, m, cap, l⟩, he, ⟨hs, hn, hle, hmx⟩⟩
end
end Go.Proofs.Ytoljahfofkmdaaa

/-! Chapter 12: what is put in order, opened. -/
namespace Go.Proofs.Ytoljahfofkmdaaa
open Go Go.RowKit Go.ChangeShapes Go.WideShapes
section
variable {H : Type} {enc : TypeId × Value → H} {w : World} {base : Nat} {spare : Nat → Bool} {held : Bool}
theorem cWaitO : Try.prog.cellsOf 51 = 3 := by kernel_rfl
theorem cWaitsO : Try.prog.cellsOf 27 = 1 := by kernel_rfl
theorem cGangsO : Try.prog.cellsOf 28 = 1 := by kernel_rfl
theorem cQueueO : Try.prog.cellsOf 26 = 1 := by kernel_rfl
theorem cRunsO : Try.prog.cellsOf 24 = 1 := by kernel_rfl
theorem cRowO : Try.prog.cellsOf 30 = 3 := by kernel_rfl
set_option maxRecDepth 100000 in
theorem wait_open {fuel : Nat} {cs : List Value} {x : DataW H × List MemPlace} (h : DataW.trod enc Try.prog w base spare held fuel 51 cs = some x) : ∃ a : Wt, cs = Enc.enc a ∧ a.U := by
  obtain ⟨xs, n, _, rfl, hl, hlen, hf⟩ := DataW.trod_struct Try.underlying51 h
  rw [cWaitO] at hl
  obtain ⟨c0, c1, c2, rfl⟩ := list3u hl
  obtain ⟨y0, y1, y2, rfl⟩ := list3u hlen
  have h0 : DataW.trod enc Try.prog w base spare held n 3 (([c0, c1, c2].drop 0).take (Try.prog.cellsOf 3)) = some y0 := hf 0 _ rfl
  have h1 : DataW.trod enc Try.prog w base spare held n 41 (([c0, c1, c2].drop 1).take (Try.prog.cellsOf 41)) = some y1 := hf 1 _ rfl
  have h2 : DataW.trod enc Try.prog w base spare held n 4 (([c0, c1, c2].drop 2).take (Try.prog.cellsOf 4)) = some y2 := hf 2 _ rfl
  clear hf hl hlen h
  rw [cInt0] at h0
  rw [cU64] at h1
  rw [cBoolO] at h2
  simp only [List.drop_zero, List.take_succ_cons, List.take_zero, List.drop_succ_cons] at h0 h1 h2
  obtain ⟨a, e0, _, f0⟩ := DataW.trod_int Try.underlying3 h0
  obtain ⟨b, e1, _, f1⟩ := DataW.trod_int Try.underlying41 h1
  obtain ⟨d, e2, _⟩ := DataW.trod_bool Try.underlying4 h2
  simp only [List.cons.injEq, and_true] at e0 e1 e2
  subst e0; subst e1; subst e2
  have g0 := i64_wf f0
  have g1 := u64_wf f1
  exact ⟨⟨a, b, d⟩, rfl, ⟨g0.1, g0.2, g1.1, g1.2⟩⟩
set_option maxRecDepth 100000 in
theorem rowO_open {fuel : Nat} {cs : List Value} {x : DataW H × List MemPlace} (h : DataW.trod enc Try.prog w base spare held fuel 30 cs = some x) : ∃ a : RowO, cs = Enc.enc a ∧ a.Reads w := by
  obtain ⟨xs, n, _, rfl, hl, hlen, hf⟩ := DataW.trod_struct Try.underlying30 h
  rw [cRowO] at hl
  obtain ⟨c0, c1, c2, rfl⟩ := list3u hl
  obtain ⟨y0, y1, y2, rfl⟩ := list3u hlen
  have h0 : DataW.trod enc Try.prog w base spare held n 26 (([c0, c1, c2].drop 0).take (Try.prog.cellsOf 26)) = some y0 := hf 0 _ rfl
  have h1 : DataW.trod enc Try.prog w base spare held n 27 (([c0, c1, c2].drop 1).take (Try.prog.cellsOf 27)) = some y1 := hf 1 _ rfl
  have h2 : DataW.trod enc Try.prog w base spare held n 28 (([c0, c1, c2].drop 2).take (Try.prog.cellsOf 28)) = some y2 := hf 2 _ rfl
  clear hf hl hlen h
  rw [cQueueO] at h0
  rw [cWaitsO] at h1
  rw [cGangsO] at h2
  simp only [List.drop_zero, List.take_succ_cons, List.take_zero, List.drop_succ_cons] at h0 h1 h2
  obtain ⟨zs, k, _, e9, hl0, hlen0, hf0⟩ := DataW.trod_struct Try.underlying26 h0
  rw [cQueueO] at hl0
  obtain ⟨z0, rfl⟩ := List.length_eq_one_iff.1 hlen0
  have h00 : DataW.trod enc Try.prog w base spare held k 24 (([c0].drop 0).take (Try.prog.cellsOf 24)) = some z0 := hf0 0 _ rfl
  rw [cRunsO] at h00
  simp only [List.drop_zero, List.take_succ_cons, List.take_zero] at h00
  obtain ⟨p, m, cap, l, he, hs, hn, hle, hmx, hg⟩ := trod_sv (α := Rn) (Good := fun r => r.U) Try.underlying24 cRun (fun _ _ _ h => rn_open h) h00
  obtain ⟨p1, m1, cap1, l1, he1, hs1, hn1, hle1, hmx1, hg1⟩ := trod_sv (α := Wt) (Good := fun r => r.U) Try.underlying27 cWaitO (fun _ _ _ h => wait_open h) h1
  obtain ⟨p2, m2, cap2, l2, he2, hs2, hn2, hle2, hmx2, hg2⟩ := trod_sv (α := IntsA) Try.underlying28 cIntsO (fun _ _ _ h => intsA_open h) h2
  simp only [List.cons.injEq, and_true] at he he1 he2
  subst he; subst he1; subst he2
  exact ⟨⟨p, m, cap, l, p1, m1, cap1, l1, p2, m2, cap2, l2⟩, rfl, ⟨hs, hn, hle, hmx, hg, hs1, hn1, hle1, hmx1, hg1, hs2, hn2, hle2, hmx2, hg2⟩⟩
set_option maxRecDepth 100000 in
theorem rows_open {v : Value} {d : DataW H} {pl : List MemPlace} (hv : Value.okWide Try.prog w .any base 22 v) (h : DataW.Trod enc Try.prog w 0 spare held 22 v d pl) :
    ∃ (q : Option Addr) (m cap : Nat) (l : List RowO), v = .slice q m cap ∧ Sv w q l ∧ m = l.length ∧ m ≤ cap ∧ cap ≤ 9223372036854775807 ∧ ∀ x ∈ l, x.Reads w := by
  obtain ⟨a, n, c, rfl⟩ := okWide_slice Try.underlying22 hv
  obtain ⟨fuel, hf⟩ := h
  obtain ⟨p, m, cap, l, he, hs, hn, hle, hmx, hg⟩ := trod_sv (α := RowO) Try.underlying22 cRowO (fun _ _ _ h => rowO_open h) hf
  have : a = p ∧ n = m ∧ c = cap := by simpa [Value.cells] using he
  obtain ⟨rfl, rfl, rfl⟩ := this
  exact ⟨a, n, c, l, rfl, hs, hn, hle, hmx, hg⟩
end
end Go.Proofs.Ytoljahfofkmdaaa
