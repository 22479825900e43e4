/- Texts of this proof, one behind the other. -/
import Derived.Test.YtdbamgbgnpadjaaZc
import Derived.Test.YtdbamgbgnpadjaaZd
import Derived.Test.YtdbamgbgnpadjaaZa
import Derived.Test.YtdbamgbgnpadjaaZb
import Derived.Test.YtdbamgbgnpadjaaProg
import Derived.DeepKeys4
import Derived.Maps.RangeRun
import Derived.ProofKit
import Derived.Carry
import Derived.Deep.Slices
import Derived.Lib.SmallJoins
/-! Alarms: the layer does something; in memory of their own. -/
namespace Go.Proofs.Ytdbamgbgnpadjaa
open Go Go.RowKit
theorem Hs.joinZ {w0 w w' : World} {L Y X Z : List Ob} (h : Hs w0 L w) (hb : Below w.heap.size w w') (hY : Hs w (Y ++ (X ++ Z)) w') (n : Nat) : Hs w0 (L.take n ++ (Y ++ (X ++ (Z ++ L.drop n)))) w' := by
 have := h.join hb hY n
 rwa [List.append_assoc, List.append_assoc] at this
theorem rng_eqRun (op : BinOp) (hop : op = .eql ∨ op = .neq) (x y : Operand) (a b : Rng) (r : Bool) (hr : r = (if op = .eql then decide (a = b) else !decide (a = b))) : EqRun Try.prog op 44 x y (.agg #[.int .i64 a.vcpu, .int .i64 a.port, .int .i64 a.at_, .int .i64 a.missed]) (.agg #[.int .i64 b.vcpu, .int .i64 b.port, .int .i64 b.at_, .int .i64 b.missed]) r := by
 intro w
 subst hr
 have hS : Try.prog.underlying 44 = some (.struct (Try.prog.fieldsOf 44)) := by kernel_rfl
 have hp : Try.prog.stoodInHeld 44 = false := by kernel_rfl
 have hg : Try.prog.eqGuardType Try.prog.depth 44 = false := by kernel_rfl
 have key : (Op.equal 44 (.agg #[.int .i64 a.vcpu, .int .i64 a.port, .int .i64 a.at_, .int .i64 a.missed]) (.agg #[.int .i64 b.vcpu, .int .i64 b.port, .int .i64 b.at_, .int .i64 b.missed])).run Try.prog w = .ok (decide (a = b)) w := by
  unfold Op.equal
  rw [show Op.maxDepth = 9999 + 1 from rfl, run_equalIn_struct w 9999 44 _ _ hS hp]
  simp only [Program.fieldsOf, Try.underlying44]
  go_simp
  obtain ⟨a0, a1, a2, a3⟩ := a
  obtain ⟨b0, b1, b2, b3⟩ := b
  simp only [Rng.mk.injEq]
  by_cases h0 : a0 = b0 <;> by_cases h1 : a1 = b1 <;> by_cases h2 : a2 = b2 <;> by_cases h3 : a3 = b3 <;> simp [h0, h1, h2, h3]
 have guard : (eqGuard op 44 x y (.agg #[.int .i64 a.vcpu, .int .i64 a.port, .int .i64 a.at_, .int .i64 a.missed]) (.agg #[.int .i64 b.vcpu, .int .i64 b.port, .int .i64 b.at_, .int .i64 b.missed])).run Try.prog w = .ok () w := by
  unfold eqGuard
  rcases hop with rfl | rfl <;> simp [hg]
 rw [Sem.run_bind, guard]
 simp only [Result.andThen_ok]
 rcases hop with rfl | rfl <;> simp [binOp, Sem.run_bind, key]
theorem rng_eq_t {x y : Operand} {a b : Rng} (h : a = b) : EqRun Try.prog .eql 44 x y (.agg #[.int .i64 a.vcpu, .int .i64 a.port, .int .i64 a.at_, .int .i64 a.missed]) (.agg #[.int .i64 b.vcpu, .int .i64 b.port, .int .i64 b.at_, .int .i64 b.missed]) true := rng_eqRun _ (.inl rfl) x y a b _ (by simp [h])
set_option maxRecDepth 100000 in
theorem awakes_t  (w : World)
 : Calls Try.prog 7 #[] w fun e w' => e = .returned (.bool true) ∧ Below w.heap.size w w' := by
 refine enter (Hs.start w) Try.func7 rfl Try.ntmps7 rfl (sq_ (qa0 [] [] [] (ds_ (sq_ (ao_ (qo0 2 [] [] [(10, .agg #[.int .i64 0, .slice none 0 0, .slice none 0 0]), (11, .agg #[.int .i64 2, .int .i64 5, .int .i64 1000])] (cP (fun v L' => ∃ q_ m_ c_ Y_ q2_ m2_ c2_ X_, v = .tuple #[.agg #[.int .i64 0, .slice q_ m_ c_, .slice q2_ m2_ c2_], .int .i64 0] ∧ L' = List.take 0 ([]) ++ (Y_ ++ (X_ ++ List.drop 0 ([]))) ∧ SlO 88 Y_ q_ m_ c_ ([⟨1, 1500⟩] : List Tim) ∧ SlO 47 X_ q2_ m2_ c2_ ([⟨2, 5, 1000⟩] : List Alm)) Try.call21 (fun w hw => by have := start_t 0 none 0 0 [] none 0 0 [] (⟨2, 5, 1000⟩ : Alm) 1500 w Sv.nil rfl (by omega) Sv.nil rfl (by omega); rw [vkw1] at this; exact this.mono fun e w' ⟨q_, m_, c_, Y_, q2_, m2_, c2_, X_, he, h1, h2, hb, hY⟩ => ⟨_, _, he, ⟨q_, m_, c_, Y_, q2_, m2_, c2_, X_, rfl, rfl, h1, h2⟩, hw.joinT hb hY 0⟩) ?_)))))))
 rintro v3 L3 ⟨q3, m3, c3, Y3, p3, k3, d3, Yx3, rfl, rfl, hO3, hP3⟩
 have hm3 := hO3.len
 have hn3 := hP3.len
 simp only [List.length_cons, List.length_nil] at hm3
 simp only [List.length_cons, List.length_nil] at hn3
 refine mo0 6 [(7, .go (owns 0 0 3))] [] (fun γ4 => [(1, .pointer (some ⟨γ4 0, 0, none⟩)), (2, .int .i64 0)]) (fun γ4 L => bx (γ4 0) (#[.int .i64 0, .slice q3 m3 c3, .slice p3 k3 d3]) 27 :: L) (fun γ4 => on_ (ds_ (sq_ (ao_ (qo0 1 [(0, .go (owns 0 0 3))] [2] [(16, .agg #[.int .i64 0, .slice q3 m3 c3, .slice p3 k3 d3])] (cP (fun v L' => ∃ q_ m_ c_ Y_ q2_ m2_ c2_ X_ q3_ m3_ c3_ Z_, v = .tuple #[.agg #[.int .i64 5000, .slice q_ m_ c_, .slice q2_ m2_ c2_], .slice q3_ m3_ c3_, .int .i64 0] ∧ L' = List.take 1 (bx (γ4 0) (#[.int .i64 0, .slice q3 m3 c3, .slice p3 k3 d3]) 27 :: (Y3 ++ (Yx3 ++ []))) ++ (Y_ ++ (X_ ++ (Z_ ++ List.drop 1 (bx (γ4 0) (#[.int .i64 0, .slice q3 m3 c3, .slice p3 k3 d3]) 27 :: (Y3 ++ (Yx3 ++ [])))))) ∧ SlO 88 Y_ q_ m_ c_ ([⟨1, 5500⟩] : List Tim) ∧ SlO 47 X_ q2_ m2_ c2_ ([⟨2, 5, 1000⟩] : List Alm) ∧ SlO 44 Z_ q3_ m3_ c3_ ([⟨2, 5, 1500, 3⟩] : List Rng)) Try.call10 (fun w hw => by have := apass_t 0 q3 m3 c3 (([⟨1, 1500⟩] : List Tim)) p3 k3 d3 (([⟨2, 5, 1000⟩] : List Alm)) 5000 w (hO3.atN (A := [_]) hw) hO3.len (by omega) (hP3.atN (A := (_ :: Y3)) hw) hP3.len (by omega); rw [vkw4, vkw5] at this; exact this.mono fun e w' ⟨q_, m_, c_, Y_, q2_, m2_, c2_, X_, q3_, m3_, c3_, Z_, he, h1, h2, h3, hb, hY⟩ => ⟨_, _, he, ⟨q_, m_, c_, Y_, q2_, m2_, c2_, X_, q3_, m3_, c3_, Z_, rfl, rfl, h1, h2, h3⟩, hw.joinZ hb hY 1⟩) ?_))))))
 rintro v6 L6 ⟨q6, m6, c6, Y6, p6, k6, d6, Yx6, pz6, kz6, dz6, Yz6, rfl, rfl, hO6, hP6, hZ6⟩
 have hm6 := hO6.len
 have hn6 := hP6.len
 have hz6 := hZ6.len
 simp only [List.length_cons, List.length_nil] at hm6
 simp only [List.length_cons, List.length_nil] at hn6
 simp only [List.length_cons, List.length_nil] at hz6
 refine mo0 8 [(7, .go (owns 0 0 3))] [2] (fun γ7 => [(3, .pointer (some ⟨γ7 0, 0, none⟩)), (4, .slice pz6 kz6 dz6), (5, .int .i64 0)]) (fun γ7 L => bx (γ7 0) (#[.int .i64 5000, .slice q6 m6 c6, .slice p6 k6 d6]) 27 :: L) (fun γ7 => on_ (ds_ (sq_ (ao_ (qo0 1 [(0, .go (owns 0 0 3))] [2, 4, 5] [(22, .agg #[.int .i64 5000, .slice q6 m6 c6, .slice p6 k6 d6])] (cD (.tuple #[.agg #[.int .i64 ((⟨2, 5, 1000⟩ : Alm).vcpu), .int .i64 ((⟨2, 5, 1000⟩ : Alm).port), .int .i64 ((⟨2, 5, 1000⟩ : Alm).every)], .int .i64 5500, .bool true]) Try.call14 (fun w hw => by have := aget_t 5000 q6 m6 c6 (([⟨1, 5500⟩] : List Tim)) p6 k6 d6 (([⟨2, 5, 1000⟩] : List Alm)) 2 w (hO6.atN (A := [_, _]) hw) hO6.len (by omega) (hP6.atN (A := (_ :: _ :: Y6)) hw) hP6.len (by omega) (by omega) (by omega); rw [vkw6] at this; exact this) (mo0 8 [(7, .go (owns 0 0 3))] [2, 4, 5] (fun γ9 => [(7, .int .i64 5500), (8, .bool true)]) (fun γ9 L => bx (γ9 0) (#[.int .i64 ((⟨2, 5, 1000⟩ : Alm).vcpu), .int .i64 ((⟨2, 5, 1000⟩ : Alm).port), .int .i64 ((⟨2, 5, 1000⟩ : Alm).every)]) 47 :: L) (fun γ9 => on_ (ds_ (sq_ (ao_ (qo0 14 [] [4] [(40, .bool true)] ?_))))))))))))
 by_cases q12 : ((kz6 : Nat) : Int) = (1 : Int)
 ·
  refine Ops.pick [[bx (γ9 0) (#[.int .i64 ((⟨2, 5, 1000⟩ : Alm).vcpu), .int .i64 ((⟨2, 5, 1000⟩ : Alm).port), .int .i64 ((⟨2, 5, 1000⟩ : Alm).every)]) 47], [bx (γ7 0) (#[.int .i64 5000, .slice q6 m6 c6, .slice p6 k6 d6]) 27], [bx (γ4 0) (#[.int .i64 0, .slice q3 m3 c3, .slice p3 k3 d3]) 27], Y6, Yx6, Yz6, Y3, Yx3] [0, 1, 2, 5, 3, 4, 6, 7] [] (bx (γ9 0) (#[.int .i64 ((⟨2, 5, 1000⟩ : Alm).vcpu), .int .i64 ((⟨2, 5, 1000⟩ : Alm).port), .int .i64 ((⟨2, 5, 1000⟩ : Alm).every)]) 47 :: bx (γ7 0) (#[.int .i64 5000, .slice q6 m6 c6, .slice p6 k6 d6]) 27 :: bx (γ4 0) (#[.int .i64 0, .slice q3 m3 c3, .slice p3 k3 d3]) 27 :: (Yz6 ++ (Y6 ++ (Yx6 ++ (Y3 ++ (Yx3 ++ [])))))) (by kernel_rfl) rfl rfl ?_
  have hln14 := hZ6.len
  obtain ⟨g14, cs14, rfl, rfl, hOw14⟩ := hZ6.rowOf (i := 0) (by omega)
  refine qo 12 [(16, .yes), (20, .at g14 0 0), (21, .go (ownps 3 (0 + 0 * 4) [.int .i64 ((⟨2, 5, 1500, 3⟩ : Rng).vcpu), .int .i64 ((⟨2, 5, 1500, 3⟩ : Rng).port), .int .i64 ((⟨2, 5, 1500, 3⟩ : Rng).at_), .int .i64 ((⟨2, 5, 1500, 3⟩ : Rng).missed)])), (23, .eqs true)] [] [(0, .bool true)] ([((kz6 : Nat) : Int) = (1 : Int)] ++ ([(some ⟨g14, 0, none⟩ : Option Addr) = some ⟨g14, 0, none⟩, 0 = ((0 : Nat) : Int), 0 < kz6] ++ (acellsP cs14 (0 + 0 * 4) [.int .i64 ((⟨2, 5, 1500, 3⟩ : Rng).vcpu), .int .i64 ((⟨2, 5, 1500, 3⟩ : Rng).port), .int .i64 ((⟨2, 5, 1500, 3⟩ : Rng).at_), .int .i64 ((⟨2, 5, 1500, 3⟩ : Rng).missed)] ++ ([EqRun Try.prog .eql 44 (.tmp 48) (.tmp 49) (.agg #[.int .i64 ((⟨2, 5, 1500, 3⟩ : Rng).vcpu), .int .i64 ((⟨2, 5, 1500, 3⟩ : Rng).port), .int .i64 ((⟨2, 5, 1500, 3⟩ : Rng).at_), .int .i64 ((⟨2, 5, 1500, 3⟩ : Rng).missed)]) (.agg #[.int .i64 2, .int .i64 5, .int .i64 1500, .int .i64 3]) true])))) (alA (al1 q12) (alA (al2 rfl (al2 rfl (al1 (by omega)))) (alA (rda_pre ((hOw14.rdx hZ6.len (by rfl))) _ rfl) (al1 (rng_eq_t (a := (⟨2, 5, 1500, 3⟩ : Rng)) (b := (⟨2, 5, 1500, 3⟩ : Rng)) rfl))))) (on_ (ds_ (rt ([]) (.bool true) ?_)))
  exact fun w' hw => ⟨rfl, hw.below⟩
 ·
  refine qo 12 [(16, .no)] [] [(0, .bool false)] ([¬ (((kz6 : Nat) : Int) = (1 : Int))]) (al1 q12) (on_ (ds_ (rt ([]) (.bool false) ?_)))
  exfalso; first | omega | (simp only [List.length_nil] at *; omega)

set_option maxRecDepth 100000 in
theorem copy_t (now : Int) (p : Option Addr) (n cap : Nat) (ts : List Tim) (pa : Option Addr) (na ca : Nat) (rs : List Alm) (w : World)
 (hts : Sv w p ts) (hn : n = ts.length) (hb : n ≤ 1000)
 (hrs : Sv w pa rs) (hna : na = rs.length) (hba : na ≤ 1000)
 : Calls Try.prog 26 #[.agg #[.int .i64 now, .slice p n cap, .slice pa na ca]] w fun e w' => ∃ q m c Y q2 m2 c2 X, e = .returned (.agg #[.int .i64 now, .slice q m c, .slice q2 m2 c2]) ∧ SlO 88 Y q m c ts ∧ SlO 47 X q2 m2 c2 rs ∧ Below w.heap.size w w' ∧ Hs w (Y ++ X) w' := by
 refine enter (Hs.start w) Try.func26 rfl Try.ntmps26 rfl (sq_ (ma0 [] [] (fun γ1 => [(1, .pointer (some ⟨γ1 0, 0, none⟩)), (2, .pointer (some ⟨γ1 1, 0, none⟩))]) (fun γ1 L => bx (γ1 1) (#[.int .i64 0, .slice none 0 0, .slice none 0 0]) 27 :: bx (γ1 0) (#[.int .i64 now, .slice p n cap, .slice pa na ca]) 27 :: L) (fun γ1 => ds_ (sq_ ?_))))
 refine at_any (by kernel_rfl) ?_
 refine tk (m := 11) [1, 2, 6] [] [1, 2] [(5, .pointer (some ⟨γ1 0, 1, none⟩)), (9, .pointer (some ⟨γ1 0, 2, none⟩))] ([]) #[false, true, true, false, false, false, true, false, false, false, false, false, false, false] al0 ?_
 refine any_cutX (V := (List Ob) × (List Ob) × (Nat) × (Nat) × (Option Addr) × (Option Addr) × (Nat → Nat) × (Nat → Nat)) (fun ⟨Y165, Y85, cap165, cap85, p165, p85, γ105, γ5⟩ => SlO 47 Y165 p165 (0 + na) cap165 ([] ++ rs) ∧ SlO 88 Y85 p85 (0 + n) cap85 ([] ++ ts)) 0 #[true, true, true, true, true, true, true, true, true, true, true, true, true, true] (fun ⟨Y165, Y85, cap165, cap85, p165, p85, γ105, γ5⟩ => [(1, .pointer (some ⟨γ1 0, 0, none⟩)), (2, .pointer (some ⟨γ1 1, 0, none⟩))]) (fun ⟨Y165, Y85, cap165, cap85, p165, p85, γ105, γ5⟩ => bx (γ1 1) (#[.int .i64 0, .slice none 0 0, .slice none 0 0]) 27 :: bx (γ1 0) (#[.int .i64 now, .slice p85 (0 + n) cap85, .slice p165 (0 + na) cap165]) 27 :: (Y165 ++ (Y85 ++ []))) ?_ (fun hmx22 => ?_)
 rotate_left
 ·
  refine any_cutX (V := (List Ob) × (List Ob) × (Nat) × (Nat) × (Option Addr) × (Option Addr) × (Nat → Nat) × (Nat → Nat)) (fun ⟨Y165, Y85, cap165, cap85, p165, p85, γ105, γ5⟩ => SlO 47 Y165 p165 (0 + na) cap165 ([] ++ rs) ∧ SlO 88 Y85 p85 (0 + n) cap85 ([] ++ ts)) 1 #[true, true, true, true, true, true, true, true, true, true, true, true, true, false] (fun ⟨Y165, Y85, cap165, cap85, p165, p85, γ105, γ5⟩ => [(1, .pointer (some ⟨γ1 0, 0, none⟩)), (2, .pointer (some ⟨γ1 1, 0, none⟩)), (11, .slice p165 (0 + na) cap165), (14, .pointer (some ⟨γ1 0, 2, none⟩))]) (fun ⟨Y165, Y85, cap165, cap85, p165, p85, γ105, γ5⟩ => bx (γ1 1) (#[.int .i64 0, .slice none 0 0, .slice none 0 0]) 27 :: bx (γ1 0) (#[.int .i64 now, .slice p85 (0 + n) cap85, .slice pa na ca]) 27 :: (Y165 ++ (Y85 ++ []))) ?_ (fun hmx21 => ?_)
  ·
   rintro ⟨Y165, Y85, cap165, cap85, p165, p85, γ105, γ5⟩ ⟨hO165, hO85⟩
   refine a1 13 rfl ?_
   refine mo0 1 [(13, .go (owns 1 2 1))] [1, 2] (fun _ => []) (fun _ L => (L.set 1 (bx (γ1 0) (#[.int .i64 now, .slice p85 (0 + n) cap85, .slice p165 (0 + na) cap165]) 27))) (fun _ => ?_)
   refine od_ ?_
   exact wk (hmx22 (Y165, Y85, cap165, cap85, p165, p85, γ105, γ5) ⟨hO165, hO85⟩) [1, 2] [[_], [_], _, _] [0, 1, 2, 3] rfl rfl
  refine any_cutX (V := (List Ob) × (List Ob) × (Nat) × (Nat) × (Option Addr) × (Option Addr) × (Nat → Nat) × (Nat → Nat)) (fun ⟨Y165, Y85, cap165, cap85, p165, p85, γ105, γ5⟩ => SlO 47 Y165 p165 (0 + na) cap165 ([] ++ rs) ∧ SlO 88 Y85 p85 (0 + n) cap85 ([] ++ ts)) 3 #[true, true, true, true, true, true, true, true, true, true, true, false, false, false] (fun ⟨Y165, Y85, cap165, cap85, p165, p85, γ105, γ5⟩ => [(1, .pointer (some ⟨γ1 0, 0, none⟩)), (2, .pointer (some ⟨γ1 1, 0, none⟩)), (7, .slice p85 (0 + n) cap85), (11, .slice p165 (0 + na) cap165), (13, .pointer (some ⟨γ1 0, 1, none⟩))]) (fun ⟨Y165, Y85, cap165, cap85, p165, p85, γ105, γ5⟩ => bx (γ1 1) (#[.int .i64 0, .slice none 0 0, .slice none 0 0]) 27 :: bx (γ1 0) (#[.int .i64 now, .slice p n cap, .slice pa na ca]) 27 :: (Y165 ++ (Y85 ++ []))) ?_ (fun hmx20 => ?_)
  ·
   rintro ⟨Y165, Y85, cap165, cap85, p165, p85, γ105, γ5⟩ ⟨hO165, hO85⟩
   refine a1 11 rfl ?_
   refine mo0 1 [(11, .go (owns 1 1 1))] [1, 2, 11] (fun _ => []) (fun _ L => (L.set 1 (bx (γ1 0) (#[.int .i64 now, .slice p85 (0 + n) cap85, .slice pa na ca]) 27))) (fun _ => ?_)
   refine od_ ?_
   refine tk (m := 1) [12] [] [1, 2, 11] [(14, .pointer (some ⟨γ1 0, 2, none⟩))] ([]) #[true, true, true, true, true, true, true, true, true, true, true, true, true, false] al0 ?_
   exact wk (hmx21 (Y165, Y85, cap165, cap85, p165, p85, γ105, γ5) ⟨hO165, hO85⟩) [1, 2, 11, 14] [[_], [_], _, _] [0, 1, 2, 3] rfl rfl
  refine any_cutX (V := (List Ob) × (Nat) × (Option Addr) × (Nat → Nat) × (Nat → Nat)) (fun ⟨Y85, cap85, p85, γ105, γ5⟩ => SlO 88 Y85 p85 (0 + n) cap85 ([] ++ ts)) 4 #[true, true, true, true, true, true, true, true, false, true, true, false, false, false] (fun ⟨Y85, cap85, p85, γ105, γ5⟩ => [(1, .pointer (some ⟨γ1 0, 0, none⟩)), (2, .pointer (some ⟨γ1 1, 0, none⟩)), (7, .slice p85 (0 + n) cap85), (8, .slice (some ⟨γ105 0, 0, none⟩) 0 0), (10, .slice pa na ca), (13, .pointer (some ⟨γ1 0, 1, none⟩))]) (fun ⟨Y85, cap85, p85, γ105, γ5⟩ => bx (γ105 0) (#[]) 47 :: bx (γ1 1) (#[.int .i64 0, .slice none 0 0, .slice none 0 0]) 27 :: bx (γ1 0) (#[.int .i64 now, .slice p n cap, .slice pa na ca]) 27 :: (Y85 ++ [])) ?_ (fun hmx19 => ?_)
  ·
   rintro ⟨Y85, cap85, p85, γ105, γ5⟩ hO85
   refine a1 8 rfl ?_
   refine ops_append (α := Alm) [bx (γ1 1) (#[.int .i64 0, .slice none 0 0, .slice none 0 0]) 27, bx (γ1 0) (#[.int .i64 now, .slice p n cap, .slice pa na ca]) 27] ([bx (γ105 0) (#[]) 47]) ((Y85 ++ [])) (mvE rfl) rfl (by kernel_rfl) (by kernel_rfl) (p := (some ⟨γ105 0, 0, none⟩)) (n := 0) (cap := 0) (m := na) (yv := .slice pa na ca) (by kernel_rfl) (by kernel_rfl) (T := 47) (by_ := 24) (by kernel_rfl) ([]) rs (SlO.lit (by rfl) (by rfl) (by simp [maxLen])) (fun w hw => src_svn Try.underlying25 (hrs.kept hw.below) hna) hna (by have hmx : maxLen = 9223372036854775807 := rfl; omega) (by have hmx : maxLen = 9223372036854775807 := rfl; omega) (fun Y165 p165 cap165 hO165 => ?_)
   refine od_ ?_
   exact wk (hmx20 (Y165, Y85, cap165, cap85, p165, p85, γ105, γ5) ⟨hO165, hO85⟩) [1, 2, 7, 11, 13] [[_], [_], _, _] [0, 1, 2, 3] rfl rfl
  refine any_cutX (V := (List Ob) × (Nat) × (Option Addr) × (Nat → Nat)) (fun ⟨Y85, cap85, p85, γ5⟩ => SlO 88 Y85 p85 (0 + n) cap85 ([] ++ ts)) 5 #[true, true, true, true, true, false, true, true, false, true, true, false, false, false] (fun ⟨Y85, cap85, p85, γ5⟩ => [(1, .pointer (some ⟨γ1 0, 0, none⟩)), (2, .pointer (some ⟨γ1 1, 0, none⟩)), (7, .slice p85 (0 + n) cap85), (10, .slice pa na ca), (13, .pointer (some ⟨γ1 0, 1, none⟩))]) (fun ⟨Y85, cap85, p85, γ5⟩ => bx (γ1 1) (#[.int .i64 0, .slice none 0 0, .slice none 0 0]) 27 :: bx (γ1 0) (#[.int .i64 now, .slice p n cap, .slice pa na ca]) 27 :: (Y85 ++ [])) ?_ (fun hmx18 => ?_)
  ·
   rintro ⟨Y85, cap85, p85, γ5⟩ hO85
   refine a1 5 rfl ?_
   refine mo0 1 [] [1, 2, 7, 10, 13] (fun γ105 => [(8, .slice (some ⟨γ105 0, 0, none⟩) 0 0)]) (fun γ105 L => bx (γ105 0) (#[]) 47 :: L) (fun γ105 => ?_)
   refine od_ ?_
   exact wk (hmx19 (Y85, cap85, p85, γ105, γ5) hO85) [1, 2, 7, 8, 10, 13] [[_], [_], [_], _] [0, 1, 2, 3] rfl rfl
  refine any_cutX (V := (Nat → Nat) × (Nat → Nat)) (fun ⟨γ105, γ5⟩ => True) 7 #[true, true, true, true, false, true, true, true, false, false, false, false, false, false] (fun ⟨γ105, γ5⟩ => [(1, .pointer (some ⟨γ1 0, 0, none⟩)), (2, .pointer (some ⟨γ1 1, 0, none⟩)), (3, .slice (some ⟨γ5 0, 0, none⟩) 0 0), (6, .slice p n cap), (8, .slice (some ⟨γ105 0, 0, none⟩) 0 0), (10, .slice pa na ca)]) (fun ⟨γ105, γ5⟩ => [bx (γ105 0) (#[]) 47, bx (γ5 0) (#[]) 88, bx (γ1 1) (#[.int .i64 0, .slice none 0 0, .slice none 0 0]) 27, bx (γ1 0) (#[.int .i64 now, .slice p n cap, .slice pa na ca]) 27]) ?_ (fun hmx17 => ?_)
  ·
   rintro ⟨γ105, γ5⟩ _
   refine a1 4 rfl ?_
   refine Ops.pick [[bx (γ105 0) (#[]) 47], [bx (γ5 0) (#[]) 88], [bx (γ1 1) (#[.int .i64 0, .slice none 0 0, .slice none 0 0]) 27], [bx (γ1 0) (#[.int .i64 now, .slice p n cap, .slice pa na ca]) 27]] [1, 0, 2, 3] [] ([bx (γ5 0) (#[]) 88, bx (γ105 0) (#[]) 47, bx (γ1 1) (#[.int .i64 0, .slice none 0 0, .slice none 0 0]) 27, bx (γ1 0) (#[.int .i64 now, .slice p n cap, .slice pa na ca]) 27]) (by kernel_rfl) rfl rfl (ops_append (α := Tim) [bx (γ105 0) (#[]) 47, bx (γ1 1) (#[.int .i64 0, .slice none 0 0, .slice none 0 0]) 27, bx (γ1 0) (#[.int .i64 now, .slice p n cap, .slice pa na ca]) 27] ([bx (γ5 0) (#[]) 88]) ([]) (mvE rfl) rfl (by kernel_rfl) (by kernel_rfl) (p := (some ⟨γ5 0, 0, none⟩)) (n := 0) (cap := 0) (m := n) (yv := .slice p n cap) (by kernel_rfl) (by kernel_rfl) (T := 88) (by_ := 16) (by kernel_rfl) ([]) ts (SlO.lit (by rfl) (by rfl) (by simp [maxLen])) (fun w hw => src_svn Try.underlying22 (hts.kept hw.below) hn) hn (by have hmx : maxLen = 9223372036854775807 := rfl; omega) (by have hmx : maxLen = 9223372036854775807 := rfl; omega) (fun Y85 p85 cap85 hO85 => ?_))
   refine od_ ?_
   refine tk (m := 4) [9, 10] [] [1, 2, 7, 8, 10] [(13, .pointer (some ⟨γ1 0, 1, none⟩))] ([]) #[true, true, true, true, true, true, true, true, false, true, true, false, false, false] al0 ?_
   exact wk (hmx19 (Y85, cap85, p85, γ105, γ5) hO85) [1, 2, 7, 8, 10, 13] [[_], [_], [_], _] [0, 1, 2, 3] rfl rfl
  refine any_cutX (V := (List Ob) × (Nat) × (Option Addr) × (Nat → Nat) × (Nat → Nat)) (fun ⟨Y85, cap85, p85, γ105, γ5⟩ => SlO 88 Y85 p85 (0 + n) cap85 ([] ++ ts)) 7 #[true, true, true, true, true, true, true, false, false, false, false, false, false, false] (fun ⟨Y85, cap85, p85, γ105, γ5⟩ => [(1, .pointer (some ⟨γ1 0, 0, none⟩)), (2, .pointer (some ⟨γ1 1, 0, none⟩)), (7, .slice p85 (0 + n) cap85), (8, .slice (some ⟨γ105 0, 0, none⟩) 0 0), (9, .pointer (some ⟨γ1 0, 2, none⟩))]) (fun ⟨Y85, cap85, p85, γ105, γ5⟩ => bx (γ105 0) (#[]) 47 :: bx (γ1 1) (#[.int .i64 0, .slice none 0 0, .slice none 0 0]) 27 :: bx (γ1 0) (#[.int .i64 now, .slice p n cap, .slice pa na ca]) 27 :: (Y85 ++ [])) ?_ (fun hmx16 => ?_)
  ·
   rintro ⟨Y85, cap85, p85, γ105, γ5⟩ hO85
   refine a1 7 rfl ?_
   refine qo0 1 [(7, .go (owns 2 2 1))] [1, 2, 7, 8] [(10, .slice pa na ca)] ?_
   refine od_ ?_
   refine tk (m := 4) [9, 10] [] [1, 2, 7, 8, 10] [(13, .pointer (some ⟨γ1 0, 1, none⟩))] ([]) #[true, true, true, true, true, true, true, true, false, true, true, false, false, false] al0 ?_
   exact wk (hmx19 (Y85, cap85, p85, γ105, γ5) hO85) [1, 2, 7, 8, 10, 13] [[_], [_], [_], _] [0, 1, 2, 3] rfl rfl
  refine any_cutX (V := (Nat → Nat)) (fun γ105 => True) 8 #[false, true, true, true, false, true, true, true, false, false, false, false, false, false] (fun γ105 => [(1, .pointer (some ⟨γ1 0, 0, none⟩)), (2, .pointer (some ⟨γ1 1, 0, none⟩)), (6, .slice p n cap), (8, .slice (some ⟨γ105 0, 0, none⟩) 0 0), (10, .slice pa na ca)]) (fun γ105 => [bx (γ105 0) (#[]) 47, bx (γ1 1) (#[.int .i64 0, .slice none 0 0, .slice none 0 0]) 27, bx (γ1 0) (#[.int .i64 now, .slice p n cap, .slice pa na ca]) 27]) ?_ (fun hmx15 => ?_)
  ·
   rintro γ105 _
   refine a1 0 rfl ?_
   refine mo0 1 [] [1, 2, 6, 8, 10] (fun γ5 => [(3, .slice (some ⟨γ5 0, 0, none⟩) 0 0)]) (fun γ5 L => bx (γ5 0) (#[]) 88 :: L) (fun γ5 => ?_)
   refine od_ ?_
   exact wk (hmx17 (γ105, γ5) trivial) [1, 2, 3, 6, 8, 10] [[_], [_], [_], [_]] [1, 0, 2, 3] rfl rfl
  refine any_cutX (V := (Nat → Nat) × (Nat → Nat)) (fun ⟨γ105, γ5⟩ => True) 8 #[true, true, true, false, false, true, true, true, false, false, false, false, false, false] (fun ⟨γ105, γ5⟩ => [(1, .pointer (some ⟨γ1 0, 0, none⟩)), (2, .pointer (some ⟨γ1 1, 0, none⟩)), (3, .slice (some ⟨γ5 0, 0, none⟩) 0 0), (5, .pointer (some ⟨γ1 0, 1, none⟩)), (8, .slice (some ⟨γ105 0, 0, none⟩) 0 0), (10, .slice pa na ca)]) (fun ⟨γ105, γ5⟩ => [bx (γ105 0) (#[]) 47, bx (γ5 0) (#[]) 88, bx (γ1 1) (#[.int .i64 0, .slice none 0 0, .slice none 0 0]) 27, bx (γ1 0) (#[.int .i64 now, .slice p n cap, .slice pa na ca]) 27]) ?_ (fun hmx14 => ?_)
  ·
   rintro ⟨γ105, γ5⟩ _
   refine a1 3 rfl ?_
   refine qo0 1 [(3, .go (owns 3 1 1))] [1, 2, 3, 8, 10] [(6, .slice p n cap)] ?_
   refine od_ ?_
   exact wk (hmx17 (γ105, γ5) trivial) [1, 2, 3, 6, 8, 10] [[_], [_], [_], [_]] [0, 1, 2, 3] rfl rfl
  refine any_cutX (V := (Nat → Nat)) (fun γ5 => True) 8 #[true, true, true, true, false, false, true, true, false, false, false, false, false, false] (fun γ5 => [(1, .pointer (some ⟨γ1 0, 0, none⟩)), (2, .pointer (some ⟨γ1 1, 0, none⟩)), (3, .slice (some ⟨γ5 0, 0, none⟩) 0 0), (6, .slice p n cap), (10, .slice pa na ca)]) (fun γ5 => [bx (γ5 0) (#[]) 88, bx (γ1 1) (#[.int .i64 0, .slice none 0 0, .slice none 0 0]) 27, bx (γ1 0) (#[.int .i64 now, .slice p n cap, .slice pa na ca]) 27]) ?_ (fun hmx13 => ?_)
  ·
   rintro γ5 _
   refine any_fork [4, 5] (by kernel_rfl) (by simp) (each_cons _ rfl ?_ (each_cons _ rfl ?_ (each_nil)))
   ·
    refine ops_append (α := Tim) [bx (γ1 1) (#[.int .i64 0, .slice none 0 0, .slice none 0 0]) 27, bx (γ1 0) (#[.int .i64 now, .slice p n cap, .slice pa na ca]) 27] ([bx (γ5 0) (#[]) 88]) ([]) (mvE rfl) rfl (by kernel_rfl) (by kernel_rfl) (p := (some ⟨γ5 0, 0, none⟩)) (n := 0) (cap := 0) (m := n) (yv := .slice p n cap) (by kernel_rfl) (by kernel_rfl) (T := 88) (by_ := 16) (by kernel_rfl) ([]) ts (SlO.lit (by rfl) (by rfl) (by simp [maxLen])) (fun w hw => src_svn Try.underlying22 (hts.kept hw.below) hn) hn (by have hmx : maxLen = 9223372036854775807 := rfl; omega) (by have hmx : maxLen = 9223372036854775807 := rfl; omega) (fun Y85 p85 cap85 hO85 => ?_)
    refine od_ ?_
    refine tk (m := 5) [9, 10] [] [1, 2, 7, 10] [(13, .pointer (some ⟨γ1 0, 1, none⟩))] ([]) #[true, true, true, true, true, false, true, true, false, true, true, false, false, false] al0 ?_
    exact wk (hmx18 (Y85, cap85, p85, γ5) hO85) [1, 2, 7, 10, 13] [[_], [_], _] [0, 1, 2] rfl rfl
   ·
    refine mo0 1 [] [1, 2, 3, 6, 10] (fun γ105 => [(8, .slice (some ⟨γ105 0, 0, none⟩) 0 0)]) (fun γ105 L => bx (γ105 0) (#[]) 47 :: L) (fun γ105 => ?_)
    refine od_ ?_
    exact wk (hmx17 (γ105, γ5) trivial) [1, 2, 3, 6, 8, 10] [[_], [_], [_], [_]] [0, 1, 2, 3] rfl rfl
  refine any_cutX (V := (Nat → Nat) × (Nat → Nat)) (fun ⟨γ105, γ5⟩ => True) 8 #[true, true, true, true, false, true, true, false, false, false, false, false, false, false] (fun ⟨γ105, γ5⟩ => [(1, .pointer (some ⟨γ1 0, 0, none⟩)), (2, .pointer (some ⟨γ1 1, 0, none⟩)), (3, .slice (some ⟨γ5 0, 0, none⟩) 0 0), (6, .slice p n cap), (8, .slice (some ⟨γ105 0, 0, none⟩) 0 0), (9, .pointer (some ⟨γ1 0, 2, none⟩))]) (fun ⟨γ105, γ5⟩ => [bx (γ105 0) (#[]) 47, bx (γ5 0) (#[]) 88, bx (γ1 1) (#[.int .i64 0, .slice none 0 0, .slice none 0 0]) 27, bx (γ1 0) (#[.int .i64 now, .slice p n cap, .slice pa na ca]) 27]) ?_ (fun hmx12 => ?_)
  ·
   rintro ⟨γ105, γ5⟩ _
   refine any_fork [4, 7] (by kernel_rfl) (by simp) (each_cons _ rfl ?_ (each_cons _ rfl ?_ (each_nil)))
   ·
    refine Ops.pick [[bx (γ105 0) (#[]) 47], [bx (γ5 0) (#[]) 88], [bx (γ1 1) (#[.int .i64 0, .slice none 0 0, .slice none 0 0]) 27], [bx (γ1 0) (#[.int .i64 now, .slice p n cap, .slice pa na ca]) 27]] [1, 0, 2, 3] [] ([bx (γ5 0) (#[]) 88, bx (γ105 0) (#[]) 47, bx (γ1 1) (#[.int .i64 0, .slice none 0 0, .slice none 0 0]) 27, bx (γ1 0) (#[.int .i64 now, .slice p n cap, .slice pa na ca]) 27]) (by kernel_rfl) rfl rfl (ops_append (α := Tim) [bx (γ105 0) (#[]) 47, bx (γ1 1) (#[.int .i64 0, .slice none 0 0, .slice none 0 0]) 27, bx (γ1 0) (#[.int .i64 now, .slice p n cap, .slice pa na ca]) 27] ([bx (γ5 0) (#[]) 88]) ([]) (mvE rfl) rfl (by kernel_rfl) (by kernel_rfl) (p := (some ⟨γ5 0, 0, none⟩)) (n := 0) (cap := 0) (m := n) (yv := .slice p n cap) (by kernel_rfl) (by kernel_rfl) (T := 88) (by_ := 16) (by kernel_rfl) ([]) ts (SlO.lit (by rfl) (by rfl) (by simp [maxLen])) (fun w hw => src_svn Try.underlying22 (hts.kept hw.below) hn) hn (by have hmx : maxLen = 9223372036854775807 := rfl; omega) (by have hmx : maxLen = 9223372036854775807 := rfl; omega) (fun Y85 p85 cap85 hO85 => ?_))
    refine od_ ?_
    exact wk (hmx16 (Y85, cap85, p85, γ105, γ5) hO85) [1, 2, 7, 8, 9] [[_], [_], [_], _] [0, 1, 2, 3] rfl rfl
   ·
    refine qo0 1 [(7, .go (owns 3 2 1))] [1, 2, 3, 6, 8] [(10, .slice pa na ca)] ?_
    refine od_ ?_
    exact wk (hmx17 (γ105, γ5) trivial) [1, 2, 3, 6, 8, 10] [[_], [_], [_], [_]] [0, 1, 2, 3] rfl rfl
  refine any_cutX (V := (List Ob) × (Nat) × (Option Addr) × (Nat → Nat)) (fun ⟨Y85, cap85, p85, γ5⟩ => SlO 88 Y85 p85 (0 + n) cap85 ([] ++ ts)) 8 #[true, true, true, true, true, false, true, false, false, false, false, false, false, false] (fun ⟨Y85, cap85, p85, γ5⟩ => [(1, .pointer (some ⟨γ1 0, 0, none⟩)), (2, .pointer (some ⟨γ1 1, 0, none⟩)), (7, .slice p85 (0 + n) cap85), (9, .pointer (some ⟨γ1 0, 2, none⟩))]) (fun ⟨Y85, cap85, p85, γ5⟩ => bx (γ1 1) (#[.int .i64 0, .slice none 0 0, .slice none 0 0]) 27 :: bx (γ1 0) (#[.int .i64 now, .slice p n cap, .slice pa na ca]) 27 :: (Y85 ++ [])) ?_ (fun hmx11 => ?_)
  ·
   rintro ⟨Y85, cap85, p85, γ5⟩ hO85
   refine any_fork [5, 7] (by kernel_rfl) (by simp) (each_cons _ rfl ?_ (each_cons _ rfl ?_ (each_nil)))
   ·
    refine mo0 1 [] [1, 2, 7, 9] (fun γ105 => [(8, .slice (some ⟨γ105 0, 0, none⟩) 0 0)]) (fun γ105 L => bx (γ105 0) (#[]) 47 :: L) (fun γ105 => ?_)
    refine od_ ?_
    exact wk (hmx16 (Y85, cap85, p85, γ105, γ5) hO85) [1, 2, 7, 8, 9] [[_], [_], [_], _] [0, 1, 2, 3] rfl rfl
   ·
    refine qo0 1 [(7, .go (owns 1 2 1))] [1, 2, 7] [(10, .slice pa na ca)] ?_
    refine od_ ?_
    refine tk (m := 5) [9, 10] [] [1, 2, 7, 10] [(13, .pointer (some ⟨γ1 0, 1, none⟩))] ([]) #[true, true, true, true, true, false, true, true, false, true, true, false, false, false] al0 ?_
    exact wk (hmx18 (Y85, cap85, p85, γ5) hO85) [1, 2, 7, 10, 13] [[_], [_], _] [0, 1, 2] rfl rfl
  refine any_cutX (V := (Nat → Nat)) (fun γ105 => True) 9 #[false, true, true, false, false, true, true, true, false, false, false, false, false, false] (fun γ105 => [(1, .pointer (some ⟨γ1 0, 0, none⟩)), (2, .pointer (some ⟨γ1 1, 0, none⟩)), (5, .pointer (some ⟨γ1 0, 1, none⟩)), (8, .slice (some ⟨γ105 0, 0, none⟩) 0 0), (10, .slice pa na ca)]) (fun γ105 => [bx (γ105 0) (#[]) 47, bx (γ1 1) (#[.int .i64 0, .slice none 0 0, .slice none 0 0]) 27, bx (γ1 0) (#[.int .i64 now, .slice p n cap, .slice pa na ca]) 27]) ?_ (fun hmx10 => ?_)
  ·
   rintro γ105 _
   refine any_fork [0, 3] (by kernel_rfl) (by simp) (each_cons _ rfl ?_ (each_cons _ rfl ?_ (each_nil)))
   ·
    refine mo0 1 [] [1, 2, 5, 8, 10] (fun γ5 => [(3, .slice (some ⟨γ5 0, 0, none⟩) 0 0)]) (fun γ5 L => bx (γ5 0) (#[]) 88 :: L) (fun γ5 => ?_)
    refine od_ ?_
    exact wk (hmx14 (γ105, γ5) trivial) [1, 2, 3, 5, 8, 10] [[_], [_], [_], [_]] [1, 0, 2, 3] rfl rfl
   ·
    refine qo0 1 [(3, .go (owns 2 1 1))] [1, 2, 8, 10] [(6, .slice p n cap)] ?_
    refine od_ ?_
    exact wk (hmx15 γ105 trivial) [1, 2, 6, 8, 10] [[_], [_], [_]] [0, 1, 2] rfl rfl
  refine any_cutX (V := Unit) (fun _ => True) 9 #[false, true, true, true, false, false, true, true, false, false, false, false, false, false] (fun _ => [(1, .pointer (some ⟨γ1 0, 0, none⟩)), (2, .pointer (some ⟨γ1 1, 0, none⟩)), (6, .slice p n cap), (10, .slice pa na ca)]) (fun _ => [bx (γ1 1) (#[.int .i64 0, .slice none 0 0, .slice none 0 0]) 27, bx (γ1 0) (#[.int .i64 now, .slice p n cap, .slice pa na ca]) 27]) ?_ (fun hmx9 => ?_)
  ·
   rintro _ _
   refine any_fork [0, 5] (by kernel_rfl) (by simp) (each_cons _ rfl ?_ (each_cons _ rfl ?_ (each_nil)))
   ·
    refine mo0 1 [] [1, 2, 6, 10] (fun γ5 => [(3, .slice (some ⟨γ5 0, 0, none⟩) 0 0)]) (fun γ5 L => bx (γ5 0) (#[]) 88 :: L) (fun γ5 => ?_)
    refine od_ ?_
    exact wk (hmx13 γ5 trivial) [1, 2, 3, 6, 10] [[_], [_], [_]] [0, 1, 2] rfl rfl
   ·
    refine mo0 1 [] [1, 2, 6, 10] (fun γ105 => [(8, .slice (some ⟨γ105 0, 0, none⟩) 0 0)]) (fun γ105 L => bx (γ105 0) (#[]) 47 :: L) (fun γ105 => ?_)
    refine od_ ?_
    exact wk (hmx15 γ105 trivial) [1, 2, 6, 8, 10] [[_], [_], [_]] [0, 1, 2] rfl rfl
  refine any_cutX (V := (Nat → Nat)) (fun γ105 => True) 9 #[false, true, true, true, false, true, true, false, false, false, false, false, false, false] (fun γ105 => [(1, .pointer (some ⟨γ1 0, 0, none⟩)), (2, .pointer (some ⟨γ1 1, 0, none⟩)), (6, .slice p n cap), (8, .slice (some ⟨γ105 0, 0, none⟩) 0 0), (9, .pointer (some ⟨γ1 0, 2, none⟩))]) (fun γ105 => [bx (γ105 0) (#[]) 47, bx (γ1 1) (#[.int .i64 0, .slice none 0 0, .slice none 0 0]) 27, bx (γ1 0) (#[.int .i64 now, .slice p n cap, .slice pa na ca]) 27]) ?_ (fun hmx8 => ?_)
  ·
   rintro γ105 _
   refine any_fork [0, 7] (by kernel_rfl) (by simp) (each_cons _ rfl ?_ (each_cons _ rfl ?_ (each_nil)))
   ·
    refine mo0 1 [] [1, 2, 6, 8, 9] (fun γ5 => [(3, .slice (some ⟨γ5 0, 0, none⟩) 0 0)]) (fun γ5 L => bx (γ5 0) (#[]) 88 :: L) (fun γ5 => ?_)
    refine od_ ?_
    exact wk (hmx12 (γ105, γ5) trivial) [1, 2, 3, 6, 8, 9] [[_], [_], [_], [_]] [1, 0, 2, 3] rfl rfl
   ·
    refine qo0 1 [(7, .go (owns 2 2 1))] [1, 2, 6, 8] [(10, .slice pa na ca)] ?_
    refine od_ ?_
    exact wk (hmx15 γ105 trivial) [1, 2, 6, 8, 10] [[_], [_], [_]] [0, 1, 2] rfl rfl
  refine any_cutX (V := (Nat → Nat)) (fun γ5 => True) 9 #[true, true, true, false, false, false, true, true, false, false, false, false, false, false] (fun γ5 => [(1, .pointer (some ⟨γ1 0, 0, none⟩)), (2, .pointer (some ⟨γ1 1, 0, none⟩)), (3, .slice (some ⟨γ5 0, 0, none⟩) 0 0), (5, .pointer (some ⟨γ1 0, 1, none⟩)), (10, .slice pa na ca)]) (fun γ5 => [bx (γ5 0) (#[]) 88, bx (γ1 1) (#[.int .i64 0, .slice none 0 0, .slice none 0 0]) 27, bx (γ1 0) (#[.int .i64 now, .slice p n cap, .slice pa na ca]) 27]) ?_ (fun hmx7 => ?_)
  ·
   rintro γ5 _
   refine any_fork [3, 5] (by kernel_rfl) (by simp) (each_cons _ rfl ?_ (each_cons _ rfl ?_ (each_nil)))
   ·
    refine qo0 1 [(3, .go (owns 2 1 1))] [1, 2, 3, 10] [(6, .slice p n cap)] ?_
    refine od_ ?_
    exact wk (hmx13 γ5 trivial) [1, 2, 3, 6, 10] [[_], [_], [_]] [0, 1, 2] rfl rfl
   ·
    refine mo0 1 [] [1, 2, 3, 5, 10] (fun γ105 => [(8, .slice (some ⟨γ105 0, 0, none⟩) 0 0)]) (fun γ105 L => bx (γ105 0) (#[]) 47 :: L) (fun γ105 => ?_)
    refine od_ ?_
    exact wk (hmx14 (γ105, γ5) trivial) [1, 2, 3, 5, 8, 10] [[_], [_], [_], [_]] [0, 1, 2, 3] rfl rfl
  refine any_cutX (V := (Nat → Nat) × (Nat → Nat)) (fun ⟨γ105, γ5⟩ => True) 9 #[true, true, true, false, false, true, true, false, false, false, false, false, false, false] (fun ⟨γ105, γ5⟩ => [(1, .pointer (some ⟨γ1 0, 0, none⟩)), (2, .pointer (some ⟨γ1 1, 0, none⟩)), (3, .slice (some ⟨γ5 0, 0, none⟩) 0 0), (5, .pointer (some ⟨γ1 0, 1, none⟩)), (8, .slice (some ⟨γ105 0, 0, none⟩) 0 0), (9, .pointer (some ⟨γ1 0, 2, none⟩))]) (fun ⟨γ105, γ5⟩ => [bx (γ105 0) (#[]) 47, bx (γ5 0) (#[]) 88, bx (γ1 1) (#[.int .i64 0, .slice none 0 0, .slice none 0 0]) 27, bx (γ1 0) (#[.int .i64 now, .slice p n cap, .slice pa na ca]) 27]) ?_ (fun hmx6 => ?_)
  ·
   rintro ⟨γ105, γ5⟩ _
   refine any_fork [3, 7] (by kernel_rfl) (by simp) (each_cons _ rfl ?_ (each_cons _ rfl ?_ (each_nil)))
   ·
    refine qo0 1 [(3, .go (owns 3 1 1))] [1, 2, 3, 8, 9] [(6, .slice p n cap)] ?_
    refine od_ ?_
    exact wk (hmx12 (γ105, γ5) trivial) [1, 2, 3, 6, 8, 9] [[_], [_], [_], [_]] [0, 1, 2, 3] rfl rfl
   ·
    refine qo0 1 [(7, .go (owns 3 2 1))] [1, 2, 3, 5, 8] [(10, .slice pa na ca)] ?_
    refine od_ ?_
    exact wk (hmx14 (γ105, γ5) trivial) [1, 2, 3, 5, 8, 10] [[_], [_], [_], [_]] [0, 1, 2, 3] rfl rfl
  refine any_cutX (V := (Nat → Nat)) (fun γ5 => True) 9 #[true, true, true, true, false, false, true, false, false, false, false, false, false, false] (fun γ5 => [(1, .pointer (some ⟨γ1 0, 0, none⟩)), (2, .pointer (some ⟨γ1 1, 0, none⟩)), (3, .slice (some ⟨γ5 0, 0, none⟩) 0 0), (6, .slice p n cap), (9, .pointer (some ⟨γ1 0, 2, none⟩))]) (fun γ5 => [bx (γ5 0) (#[]) 88, bx (γ1 1) (#[.int .i64 0, .slice none 0 0, .slice none 0 0]) 27, bx (γ1 0) (#[.int .i64 now, .slice p n cap, .slice pa na ca]) 27]) ?_ (fun hmx5 => ?_)
  ·
   rintro γ5 _
   refine any_fork [4, 5, 7] (by kernel_rfl) (by simp) (each_cons _ rfl ?_ (each_cons _ rfl ?_ (each_cons _ rfl ?_ (each_nil))))
   ·
    refine ops_append (α := Tim) [bx (γ1 1) (#[.int .i64 0, .slice none 0 0, .slice none 0 0]) 27, bx (γ1 0) (#[.int .i64 now, .slice p n cap, .slice pa na ca]) 27] ([bx (γ5 0) (#[]) 88]) ([]) (mvE rfl) rfl (by kernel_rfl) (by kernel_rfl) (p := (some ⟨γ5 0, 0, none⟩)) (n := 0) (cap := 0) (m := n) (yv := .slice p n cap) (by kernel_rfl) (by kernel_rfl) (T := 88) (by_ := 16) (by kernel_rfl) ([]) ts (SlO.lit (by rfl) (by rfl) (by simp [maxLen])) (fun w hw => src_svn Try.underlying22 (hts.kept hw.below) hn) hn (by have hmx : maxLen = 9223372036854775807 := rfl; omega) (by have hmx : maxLen = 9223372036854775807 := rfl; omega) (fun Y85 p85 cap85 hO85 => ?_)
    refine od_ ?_
    exact wk (hmx11 (Y85, cap85, p85, γ5) hO85) [1, 2, 7, 9] [[_], [_], _] [0, 1, 2] rfl rfl
   ·
    refine mo0 1 [] [1, 2, 3, 6, 9] (fun γ105 => [(8, .slice (some ⟨γ105 0, 0, none⟩) 0 0)]) (fun γ105 L => bx (γ105 0) (#[]) 47 :: L) (fun γ105 => ?_)
    refine od_ ?_
    exact wk (hmx12 (γ105, γ5) trivial) [1, 2, 3, 6, 8, 9] [[_], [_], [_], [_]] [0, 1, 2, 3] rfl rfl
   ·
    refine qo0 1 [(7, .go (owns 2 2 1))] [1, 2, 3, 6] [(10, .slice pa na ca)] ?_
    refine od_ ?_
    exact wk (hmx13 γ5 trivial) [1, 2, 3, 6, 10] [[_], [_], [_]] [0, 1, 2] rfl rfl
  refine any_cutX (V := Unit) (fun _ => True) 10 #[false, true, true, false, false, false, true, true, false, false, false, false, false, false] (fun _ => [(1, .pointer (some ⟨γ1 0, 0, none⟩)), (2, .pointer (some ⟨γ1 1, 0, none⟩)), (5, .pointer (some ⟨γ1 0, 1, none⟩)), (10, .slice pa na ca)]) (fun _ => [bx (γ1 1) (#[.int .i64 0, .slice none 0 0, .slice none 0 0]) 27, bx (γ1 0) (#[.int .i64 now, .slice p n cap, .slice pa na ca]) 27]) ?_ (fun hmx4 => ?_)
  ·
   rintro _ _
   refine any_fork [0, 3, 5] (by kernel_rfl) (by simp) (each_cons _ rfl ?_ (each_cons _ rfl ?_ (each_cons _ rfl ?_ (each_nil))))
   ·
    refine mo0 1 [] [1, 2, 5, 10] (fun γ5 => [(3, .slice (some ⟨γ5 0, 0, none⟩) 0 0)]) (fun γ5 L => bx (γ5 0) (#[]) 88 :: L) (fun γ5 => ?_)
    refine od_ ?_
    exact wk (hmx7 γ5 trivial) [1, 2, 3, 5, 10] [[_], [_], [_]] [0, 1, 2] rfl rfl
   ·
    refine qo0 1 [(3, .go (owns 1 1 1))] [1, 2, 10] [(6, .slice p n cap)] ?_
    refine od_ ?_
    exact wk (hmx9 () trivial) [1, 2, 6, 10] [[_], [_]] [0, 1] rfl rfl
   ·
    refine mo0 1 [] [1, 2, 5, 10] (fun γ105 => [(8, .slice (some ⟨γ105 0, 0, none⟩) 0 0)]) (fun γ105 L => bx (γ105 0) (#[]) 47 :: L) (fun γ105 => ?_)
    refine od_ ?_
    exact wk (hmx10 γ105 trivial) [1, 2, 5, 8, 10] [[_], [_], [_]] [0, 1, 2] rfl rfl
  refine any_cutX (V := (Nat → Nat)) (fun γ105 => True) 10 #[false, true, true, false, false, true, true, false, false, false, false, false, false, false] (fun γ105 => [(1, .pointer (some ⟨γ1 0, 0, none⟩)), (2, .pointer (some ⟨γ1 1, 0, none⟩)), (5, .pointer (some ⟨γ1 0, 1, none⟩)), (8, .slice (some ⟨γ105 0, 0, none⟩) 0 0), (9, .pointer (some ⟨γ1 0, 2, none⟩))]) (fun γ105 => [bx (γ105 0) (#[]) 47, bx (γ1 1) (#[.int .i64 0, .slice none 0 0, .slice none 0 0]) 27, bx (γ1 0) (#[.int .i64 now, .slice p n cap, .slice pa na ca]) 27]) ?_ (fun hmx3 => ?_)
  ·
   rintro γ105 _
   refine any_fork [0, 3, 7] (by kernel_rfl) (by simp) (each_cons _ rfl ?_ (each_cons _ rfl ?_ (each_cons _ rfl ?_ (each_nil))))
   ·
    refine mo0 1 [] [1, 2, 5, 8, 9] (fun γ5 => [(3, .slice (some ⟨γ5 0, 0, none⟩) 0 0)]) (fun γ5 L => bx (γ5 0) (#[]) 88 :: L) (fun γ5 => ?_)
    refine od_ ?_
    exact wk (hmx6 (γ105, γ5) trivial) [1, 2, 3, 5, 8, 9] [[_], [_], [_], [_]] [1, 0, 2, 3] rfl rfl
   ·
    refine qo0 1 [(3, .go (owns 2 1 1))] [1, 2, 8, 9] [(6, .slice p n cap)] ?_
    refine od_ ?_
    exact wk (hmx8 γ105 trivial) [1, 2, 6, 8, 9] [[_], [_], [_]] [0, 1, 2] rfl rfl
   ·
    refine qo0 1 [(7, .go (owns 2 2 1))] [1, 2, 5, 8] [(10, .slice pa na ca)] ?_
    refine od_ ?_
    exact wk (hmx10 γ105 trivial) [1, 2, 5, 8, 10] [[_], [_], [_]] [0, 1, 2] rfl rfl
  refine any_cutX (V := Unit) (fun _ => True) 10 #[false, true, true, true, false, false, true, false, false, false, false, false, false, false] (fun _ => [(1, .pointer (some ⟨γ1 0, 0, none⟩)), (2, .pointer (some ⟨γ1 1, 0, none⟩)), (6, .slice p n cap), (9, .pointer (some ⟨γ1 0, 2, none⟩))]) (fun _ => [bx (γ1 1) (#[.int .i64 0, .slice none 0 0, .slice none 0 0]) 27, bx (γ1 0) (#[.int .i64 now, .slice p n cap, .slice pa na ca]) 27]) ?_ (fun hmx2 => ?_)
  ·
   rintro _ _
   refine any_fork [0, 5, 7] (by kernel_rfl) (by simp) (each_cons _ rfl ?_ (each_cons _ rfl ?_ (each_cons _ rfl ?_ (each_nil))))
   ·
    refine mo0 1 [] [1, 2, 6, 9] (fun γ5 => [(3, .slice (some ⟨γ5 0, 0, none⟩) 0 0)]) (fun γ5 L => bx (γ5 0) (#[]) 88 :: L) (fun γ5 => ?_)
    refine od_ ?_
    exact wk (hmx5 γ5 trivial) [1, 2, 3, 6, 9] [[_], [_], [_]] [0, 1, 2] rfl rfl
   ·
    refine mo0 1 [] [1, 2, 6, 9] (fun γ105 => [(8, .slice (some ⟨γ105 0, 0, none⟩) 0 0)]) (fun γ105 L => bx (γ105 0) (#[]) 47 :: L) (fun γ105 => ?_)
    refine od_ ?_
    exact wk (hmx8 γ105 trivial) [1, 2, 6, 8, 9] [[_], [_], [_]] [0, 1, 2] rfl rfl
   ·
    refine qo0 1 [(7, .go (owns 1 2 1))] [1, 2, 6] [(10, .slice pa na ca)] ?_
    refine od_ ?_
    exact wk (hmx9 () trivial) [1, 2, 6, 10] [[_], [_]] [0, 1] rfl rfl
  refine any_cutX (V := (Nat → Nat)) (fun γ5 => True) 10 #[true, true, true, false, false, false, true, false, false, false, false, false, false, false] (fun γ5 => [(1, .pointer (some ⟨γ1 0, 0, none⟩)), (2, .pointer (some ⟨γ1 1, 0, none⟩)), (3, .slice (some ⟨γ5 0, 0, none⟩) 0 0), (5, .pointer (some ⟨γ1 0, 1, none⟩)), (9, .pointer (some ⟨γ1 0, 2, none⟩))]) (fun γ5 => [bx (γ5 0) (#[]) 88, bx (γ1 1) (#[.int .i64 0, .slice none 0 0, .slice none 0 0]) 27, bx (γ1 0) (#[.int .i64 now, .slice p n cap, .slice pa na ca]) 27]) ?_ (fun hmx1 => ?_)
  ·
   rintro γ5 _
   refine any_fork [3, 5, 7] (by kernel_rfl) (by simp) (each_cons _ rfl ?_ (each_cons _ rfl ?_ (each_cons _ rfl ?_ (each_nil))))
   ·
    refine qo0 1 [(3, .go (owns 2 1 1))] [1, 2, 3, 9] [(6, .slice p n cap)] ?_
    refine od_ ?_
    exact wk (hmx5 γ5 trivial) [1, 2, 3, 6, 9] [[_], [_], [_]] [0, 1, 2] rfl rfl
   ·
    refine mo0 1 [] [1, 2, 3, 5, 9] (fun γ105 => [(8, .slice (some ⟨γ105 0, 0, none⟩) 0 0)]) (fun γ105 L => bx (γ105 0) (#[]) 47 :: L) (fun γ105 => ?_)
    refine od_ ?_
    exact wk (hmx6 (γ105, γ5) trivial) [1, 2, 3, 5, 8, 9] [[_], [_], [_], [_]] [0, 1, 2, 3] rfl rfl
   ·
    refine qo0 1 [(7, .go (owns 2 2 1))] [1, 2, 3, 5] [(10, .slice pa na ca)] ?_
    refine od_ ?_
    exact wk (hmx7 γ5 trivial) [1, 2, 3, 5, 10] [[_], [_], [_]] [0, 1, 2] rfl rfl
  refine any_fork [0, 3, 5, 7] (by kernel_rfl) (by simp) (each_cons _ rfl ?_ (each_cons _ rfl ?_ (each_cons _ rfl ?_ (each_cons _ rfl ?_ (each_nil)))))
  ·
   refine mo0 1 [] [1, 2, 5, 9] (fun γ5 => [(3, .slice (some ⟨γ5 0, 0, none⟩) 0 0)]) (fun γ5 L => bx (γ5 0) (#[]) 88 :: L) (fun γ5 => ?_)
   refine od_ ?_
   exact wk (hmx1 γ5 trivial) [1, 2, 3, 5, 9] [[_], [_], [_]] [0, 1, 2] rfl rfl
  ·
   refine qo0 1 [(3, .go (owns 1 1 1))] [1, 2, 9] [(6, .slice p n cap)] ?_
   refine od_ ?_
   exact wk (hmx2 () trivial) [1, 2, 6, 9] [[_], [_]] [0, 1] rfl rfl
  ·
   refine mo0 1 [] [1, 2, 5, 9] (fun γ105 => [(8, .slice (some ⟨γ105 0, 0, none⟩) 0 0)]) (fun γ105 L => bx (γ105 0) (#[]) 47 :: L) (fun γ105 => ?_)
   refine od_ ?_
   exact wk (hmx3 γ105 trivial) [1, 2, 5, 8, 9] [[_], [_], [_]] [0, 1, 2] rfl rfl
  ·
   refine qo0 1 [(7, .go (owns 1 2 1))] [1, 2, 5] [(10, .slice pa na ca)] ?_
   refine od_ ?_
   exact wk (hmx4 () trivial) [1, 2, 5, 10] [[_], [_]] [0, 1] rfl rfl
 rintro ⟨Y165, Y85, cap165, cap85, p165, p85, γ105, γ5⟩ ⟨hO165, hO85⟩
 refine any_nil (by kernel_rfl) ?_
 refine ds_ (sq_ (ma0 [(0, .go (owns 1 0 3)), (1, .go (owns 0 0 3))] [2] (fun _ => []) (fun _ L => (L.set 0 (bx (γ1 1) (#[.int .i64 now, .slice p85 (0 + n) cap85, .slice p165 (0 + na) cap165]) 27))) (fun _ => ds_ (rt (owns 0 0 3) (.agg #[.int .i64 now, .slice p85 (0 + n) cap85, .slice p165 (0 + na) cap165]) ?_))))
 exact fun w' hw => ⟨_, _, _, _, _, _, _, _, rfl, by simpa using hO85, by simpa using hO165, hw.below, two_tails (Hs.pick [[bx (γ1 1) (#[.int .i64 now, .slice p85 (0 + n) cap85, .slice p165 (0 + na) cap165]) 27], [bx (γ1 0) (#[.int .i64 now, .slice p85 (0 + n) cap85, .slice p165 (0 + na) cap165]) 27], Y165, Y85] [3, 2] [0, 1] (by kernel_rfl) hw)⟩

set_option maxRecDepth 100000 in
theorem short_t (now : Int) (p : Option Addr) (n cap : Nat) (ts : List Tim) (pa : Option Addr) (na ca : Nat) (rs : List Alm) (w : World)
 (hts : Sv w p ts) (hn : n = ts.length) (hcp : n ≤ cap) (hbg : cap ≤ 9223372036854775807)
 (hrs : Sv w pa rs) (hna : na = rs.length) (hca : na ≤ ca) (hbga : ca ≤ 9223372036854775807)
 : Calls Try.prog 8 #[.agg #[.int .i64 now, .slice p n cap, .slice pa na ca]] w fun e w' => ∃ q m c Y q2 m2 c2 X, e = .returned (.agg #[.int .i64 now, .slice q m c, .slice q2 m2 c2]) ∧ SlO 88 Y q m c (shT ts) ∧ SlO 47 X q2 m2 c2 (shR rs) ∧ Below w.heap.size w w' ∧ Hs w (Y ++ X) w' := by
 refine enter (Hs.start w) Try.func8 rfl Try.ntmps8 rfl (sq_ (ma0 [] [] (fun γ1 => [(1, .pointer (some ⟨γ1 0, 0, none⟩)), (2, .pointer (some ⟨γ1 1, 0, none⟩))]) (fun γ1 L => bx (γ1 1) (#[.int .i64 0, .slice none 0 0, .slice none 0 0]) 27 :: bx (γ1 0) (#[.int .i64 now, .slice p n cap, .slice pa na ca]) 27 :: L) (fun γ1 => ds_ (sq_ ?_))))
 refine at_any (by kernel_rfl) ?_
 refine tk (m := 15) [0, 1, 3, 4, 9, 11] [] [1, 2] [(4, .pointer (some ⟨γ1 0, 1, none⟩)), (7, .pointer (some ⟨γ1 0, 1, none⟩)), (12, .pointer (some ⟨γ1 0, 2, none⟩)), (14, .pointer (some ⟨γ1 0, 2, none⟩))] ([]) #[true, true, false, true, true, false, false, false, false, true, false, true, false, false, false, false, false, false, false, false, false] al0 ?_
 refine any_cutX (V := Unit) (fun _ => True) 0 #[true, true, true, true, true, true, true, true, true, true, true, true, true, true, true, true, true, true, true, true, true] (fun _ => [(1, .pointer (some ⟨γ1 0, 0, none⟩)), (2, .pointer (some ⟨γ1 1, 0, none⟩))]) (fun _ => [bx (γ1 1) (#[.int .i64 0, .slice none 0 0, .slice none 0 0]) 27, bx (γ1 0) (#[.int .i64 now, .slice p ((min n 33)) cap, .slice pa ((min na 17)) ca]) 27]) ?_ (fun hmx27 => ?_)
 rotate_left
 ·
  refine any_cutX (V := Unit) (fun _ => True) 1 #[true, true, true, true, true, true, true, true, true, true, true, true, true, true, true, true, true, true, true, true, false] (fun _ => [(1, .pointer (some ⟨γ1 0, 0, none⟩)), (2, .pointer (some ⟨γ1 1, 0, none⟩)), (18, .slice pa ((min na 17)) ca), (21, .pointer (some ⟨γ1 0, 2, none⟩))]) (fun _ => [bx (γ1 1) (#[.int .i64 0, .slice none 0 0, .slice none 0 0]) 27, bx (γ1 0) (#[.int .i64 now, .slice p ((min n 33)) cap, .slice pa na ca]) 27]) ?_ (fun hmx26 => ?_)
  ·
   rintro _ _
   refine a1 20 rfl ?_
   refine mo0 1 [(20, .go (owns 1 2 1))] [1, 2] (fun _ => []) (fun _ L => (L.set 1 (bx (γ1 0) (#[.int .i64 now, .slice p ((min n 33)) cap, .slice pa ((min na 17)) ca]) 27))) (fun _ => ?_)
   refine od_ ?_
   exact wk (hmx27 () trivial) [1, 2] [[_], [_]] [0, 1] rfl rfl
  refine any_cutX (V := Unit) (fun _ => True) 3 #[true, true, true, true, true, true, true, true, true, true, true, true, true, true, true, false, true, true, true, false, false] (fun _ => [(1, .pointer (some ⟨γ1 0, 0, none⟩)), (2, .pointer (some ⟨γ1 1, 0, none⟩)), (13, .slice pa na ca), (17, .int .i64 ((if (17 : Int) < ((na : Nat) : Int) then 17 else (na : Nat))))]) (fun _ => [bx (γ1 1) (#[.int .i64 0, .slice none 0 0, .slice none 0 0]) 27, bx (γ1 0) (#[.int .i64 now, .slice p ((min n 33)) cap, .slice pa na ca]) 27]) ?_ (fun hmx25 => ?_)
  ·
   rintro _ _
   refine a1 15 rfl ?_
   refine qo 1 [(15, .sl (.slice pa ((min na 17)) ca))] [1, 2] [(18, .slice pa ((min na 17)) ca)] ([SlRun Try.prog 25 (.slice pa na ca) none (some (.int .i64 ((if (17 : Int) < ((na : Nat) : Int) then 17 else (na : Nat))))) none (.slice pa ((min na 17)) ca)]) (al1 (by rw [min_if17]; exact slE_hi (P := Try.prog) (h := (min na 17)) (T := 25) (e := 47) (k := 3) (by_ := 24) (by kernel_rfl) (by omega))) ?_
   refine od_ ?_
   refine tk (m := 1) [19] [] [1, 2, 18] [(21, .pointer (some ⟨γ1 0, 2, none⟩))] ([]) #[true, true, true, true, true, true, true, true, true, true, true, true, true, true, true, true, true, true, true, true, false] al0 ?_
   exact wk (hmx26 () trivial) [1, 2, 18, 21] [[_], [_]] [0, 1] rfl rfl
  refine any_cutX (V := Unit) (fun _ => True) 3 #[true, true, true, true, true, true, true, true, true, true, true, true, true, true, true, true, true, true, false, false, false] (fun _ => [(1, .pointer (some ⟨γ1 0, 0, none⟩)), (2, .pointer (some ⟨γ1 1, 0, none⟩)), (11, .slice p ((min n 33)) cap), (18, .slice pa ((min na 17)) ca), (20, .pointer (some ⟨γ1 0, 1, none⟩))]) (fun _ => [bx (γ1 1) (#[.int .i64 0, .slice none 0 0, .slice none 0 0]) 27, bx (γ1 0) (#[.int .i64 now, .slice p n cap, .slice pa na ca]) 27]) ?_ (fun hmx24 => ?_)
  ·
   rintro _ _
   refine a1 18 rfl ?_
   refine mo0 1 [(18, .go (owns 1 1 1))] [1, 2, 18] (fun _ => []) (fun _ L => (L.set 1 (bx (γ1 0) (#[.int .i64 now, .slice p ((min n 33)) cap, .slice pa na ca]) 27))) (fun _ => ?_)
   refine od_ ?_
   refine tk (m := 1) [19] [] [1, 2, 18] [(21, .pointer (some ⟨γ1 0, 2, none⟩))] ([]) #[true, true, true, true, true, true, true, true, true, true, true, true, true, true, true, true, true, true, true, true, false] al0 ?_
   exact wk (hmx26 () trivial) [1, 2, 18, 21] [[_], [_]] [0, 1] rfl rfl
  refine any_cutX (V := Unit) (fun _ => True) 4 #[true, true, true, true, true, true, true, true, true, true, true, true, true, true, true, false, true, true, false, false, false] (fun _ => [(1, .pointer (some ⟨γ1 0, 0, none⟩)), (2, .pointer (some ⟨γ1 1, 0, none⟩)), (11, .slice p ((min n 33)) cap), (13, .slice pa na ca), (17, .int .i64 ((if (17 : Int) < ((na : Nat) : Int) then 17 else (na : Nat)))), (20, .pointer (some ⟨γ1 0, 1, none⟩))]) (fun _ => [bx (γ1 1) (#[.int .i64 0, .slice none 0 0, .slice none 0 0]) 27, bx (γ1 0) (#[.int .i64 now, .slice p n cap, .slice pa na ca]) 27]) ?_ (fun hmx23 => ?_)
  ·
   rintro _ _
   refine any_fork [15, 18] (by kernel_rfl) (by simp) (each_cons _ rfl ?_ (each_cons _ rfl ?_ (each_nil)))
   ·
    refine qo 1 [(15, .sl (.slice pa ((min na 17)) ca))] [1, 2, 11, 20] [(18, .slice pa ((min na 17)) ca)] ([SlRun Try.prog 25 (.slice pa na ca) none (some (.int .i64 ((if (17 : Int) < ((na : Nat) : Int) then 17 else (na : Nat))))) none (.slice pa ((min na 17)) ca)]) (al1 (by rw [min_if17]; exact slE_hi (P := Try.prog) (h := (min na 17)) (T := 25) (e := 47) (k := 3) (by_ := 24) (by kernel_rfl) (by omega))) ?_
    refine od_ ?_
    exact wk (hmx24 () trivial) [1, 2, 11, 18, 20] [[_], [_]] [0, 1] rfl rfl
   ·
    refine mo0 1 [(18, .go (owns 1 1 1))] [1, 2, 13, 17] (fun _ => []) (fun _ L => (L.set 1 (bx (γ1 0) (#[.int .i64 now, .slice p ((min n 33)) cap, .slice pa na ca]) 27))) (fun _ => ?_)
    refine od_ ?_
    exact wk (hmx25 () trivial) [1, 2, 13, 17] [[_], [_]] [0, 1] rfl rfl
  refine any_cutX (V := Unit) (fun _ => True) 6 #[true, true, true, true, true, true, true, true, false, true, true, true, true, true, true, true, false, false, false, false, false] (fun _ => [(1, .pointer (some ⟨γ1 0, 0, none⟩)), (2, .pointer (some ⟨γ1 1, 0, none⟩)), (5, .slice p n cap), (10, .int .i64 ((if (33 : Int) < ((n : Nat) : Int) then 33 else (n : Nat)))), (18, .slice pa ((min na 17)) ca)]) (fun _ => [bx (γ1 1) (#[.int .i64 0, .slice none 0 0, .slice none 0 0]) 27, bx (γ1 0) (#[.int .i64 now, .slice p n cap, .slice pa na ca]) 27]) ?_ (fun hmx22 => ?_)
  ·
   rintro _ _
   refine a1 8 rfl ?_
   refine qo 1 [(8, .sl (.slice p ((min n 33)) cap))] [1, 2, 18] [(11, .slice p ((min n 33)) cap)] ([SlRun Try.prog 22 (.slice p n cap) none (some (.int .i64 ((if (33 : Int) < ((n : Nat) : Int) then 33 else (n : Nat))))) none (.slice p ((min n 33)) cap)]) (al1 (by rw [min_if33]; exact slE_hi (P := Try.prog) (h := (min n 33)) (T := 22) (e := 88) (k := 2) (by_ := 16) (by kernel_rfl) (by omega))) ?_
   refine od_ ?_
   refine tk (m := 3) [16, 17] [] [1, 2, 11, 18] [(20, .pointer (some ⟨γ1 0, 1, none⟩))] ([]) #[true, true, true, true, true, true, true, true, true, true, true, true, true, true, true, true, true, true, false, false, false] al0 ?_
   exact wk (hmx24 () trivial) [1, 2, 11, 18, 20] [[_], [_]] [0, 1] rfl rfl
  refine any_cutX (V := Unit) (fun _ => True) 7 #[true, true, false, true, true, true, true, true, false, true, true, true, true, true, true, true, false, false, false, false, false] (fun _ => [(1, .pointer (some ⟨γ1 0, 0, none⟩)), (2, .pointer (some ⟨γ1 1, 0, none⟩)), (4, .pointer (some ⟨γ1 0, 1, none⟩)), (10, .int .i64 ((if (33 : Int) < ((n : Nat) : Int) then 33 else (n : Nat)))), (18, .slice pa ((min na 17)) ca)]) (fun _ => [bx (γ1 1) (#[.int .i64 0, .slice none 0 0, .slice none 0 0]) 27, bx (γ1 0) (#[.int .i64 now, .slice p n cap, .slice pa na ca]) 27]) ?_ (fun hmx21 => ?_)
  ·
   rintro _ _
   refine a1 2 rfl ?_
   refine qo0 1 [(2, .go (owns 1 1 1))] [1, 2, 10, 18] [(5, .slice p n cap)] ?_
   refine od_ ?_
   exact wk (hmx22 () trivial) [1, 2, 5, 10, 18] [[_], [_]] [0, 1] rfl rfl
  refine any_cutX (V := Unit) (fun _ => True) 7 #[true, true, true, true, true, true, true, true, true, true, false, true, true, true, true, false, false, false, false, false, false] (fun _ => [(1, .pointer (some ⟨γ1 0, 0, none⟩)), (2, .pointer (some ⟨γ1 1, 0, none⟩)), (11, .slice p ((min n 33)) cap), (12, .pointer (some ⟨γ1 0, 2, none⟩)), (17, .int .i64 ((if (17 : Int) < ((na : Nat) : Int) then 17 else (na : Nat))))]) (fun _ => [bx (γ1 1) (#[.int .i64 0, .slice none 0 0, .slice none 0 0]) 27, bx (γ1 0) (#[.int .i64 now, .slice p n cap, .slice pa na ca]) 27]) ?_ (fun hmx20 => ?_)
  ·
   rintro _ _
   refine a1 10 rfl ?_
   refine qo0 1 [(10, .go (owns 1 2 1))] [1, 2, 11, 17] [(13, .slice pa na ca)] ?_
   refine od_ ?_
   refine tk (m := 4) [16, 17] [] [1, 2, 11, 13, 17] [(20, .pointer (some ⟨γ1 0, 1, none⟩))] ([]) #[true, true, true, true, true, true, true, true, true, true, true, true, true, true, true, false, true, true, false, false, false] al0 ?_
   exact wk (hmx23 () trivial) [1, 2, 11, 13, 17, 20] [[_], [_]] [0, 1] rfl rfl
  refine any_cutX (V := Unit) (fun _ => True) 7 #[true, true, true, true, true, true, true, true, false, true, true, true, true, true, true, false, false, false, false, false, false] (fun _ => [(1, .pointer (some ⟨γ1 0, 0, none⟩)), (2, .pointer (some ⟨γ1 1, 0, none⟩)), (5, .slice p n cap), (10, .int .i64 ((if (33 : Int) < ((n : Nat) : Int) then 33 else (n : Nat)))), (13, .slice pa na ca), (17, .int .i64 ((if (17 : Int) < ((na : Nat) : Int) then 17 else (na : Nat))))]) (fun _ => [bx (γ1 1) (#[.int .i64 0, .slice none 0 0, .slice none 0 0]) 27, bx (γ1 0) (#[.int .i64 now, .slice p n cap, .slice pa na ca]) 27]) ?_ (fun hmx19 => ?_)
  ·
   rintro _ _
   refine any_fork [8, 15] (by kernel_rfl) (by simp) (each_cons _ rfl ?_ (each_cons _ rfl ?_ (each_nil)))
   ·
    refine qo 1 [(8, .sl (.slice p ((min n 33)) cap))] [1, 2, 13, 17] [(11, .slice p ((min n 33)) cap)] ([SlRun Try.prog 22 (.slice p n cap) none (some (.int .i64 ((if (33 : Int) < ((n : Nat) : Int) then 33 else (n : Nat))))) none (.slice p ((min n 33)) cap)]) (al1 (by rw [min_if33]; exact slE_hi (P := Try.prog) (h := (min n 33)) (T := 22) (e := 88) (k := 2) (by_ := 16) (by kernel_rfl) (by omega))) ?_
    refine od_ ?_
    refine tk (m := 4) [16, 17] [] [1, 2, 11, 13, 17] [(20, .pointer (some ⟨γ1 0, 1, none⟩))] ([]) #[true, true, true, true, true, true, true, true, true, true, true, true, true, true, true, false, true, true, false, false, false] al0 ?_
    exact wk (hmx23 () trivial) [1, 2, 11, 13, 17, 20] [[_], [_]] [0, 1] rfl rfl
   ·
    refine qo 1 [(15, .sl (.slice pa ((min na 17)) ca))] [1, 2, 5, 10] [(18, .slice pa ((min na 17)) ca)] ([SlRun Try.prog 25 (.slice pa na ca) none (some (.int .i64 ((if (17 : Int) < ((na : Nat) : Int) then 17 else (na : Nat))))) none (.slice pa ((min na 17)) ca)]) (al1 (by rw [min_if17]; exact slE_hi (P := Try.prog) (h := (min na 17)) (T := 25) (e := 47) (k := 3) (by_ := 24) (by kernel_rfl) (by omega))) ?_
    refine od_ ?_
    exact wk (hmx22 () trivial) [1, 2, 5, 10, 18] [[_], [_]] [0, 1] rfl rfl
  refine any_cutX (V := Unit) (fun _ => True) 8 #[true, true, false, true, true, true, true, true, false, true, true, true, true, true, true, false, false, false, false, false, false] (fun _ => [(1, .pointer (some ⟨γ1 0, 0, none⟩)), (2, .pointer (some ⟨γ1 1, 0, none⟩)), (4, .pointer (some ⟨γ1 0, 1, none⟩)), (10, .int .i64 ((if (33 : Int) < ((n : Nat) : Int) then 33 else (n : Nat)))), (13, .slice pa na ca), (17, .int .i64 ((if (17 : Int) < ((na : Nat) : Int) then 17 else (na : Nat))))]) (fun _ => [bx (γ1 1) (#[.int .i64 0, .slice none 0 0, .slice none 0 0]) 27, bx (γ1 0) (#[.int .i64 now, .slice p n cap, .slice pa na ca]) 27]) ?_ (fun hmx18 => ?_)
  ·
   rintro _ _
   refine any_fork [2, 15] (by kernel_rfl) (by simp) (each_cons _ rfl ?_ (each_cons _ rfl ?_ (each_nil)))
   ·
    refine qo0 1 [(2, .go (owns 1 1 1))] [1, 2, 10, 13, 17] [(5, .slice p n cap)] ?_
    refine od_ ?_
    exact wk (hmx19 () trivial) [1, 2, 5, 10, 13, 17] [[_], [_]] [0, 1] rfl rfl
   ·
    refine qo 1 [(15, .sl (.slice pa ((min na 17)) ca))] [1, 2, 4, 10] [(18, .slice pa ((min na 17)) ca)] ([SlRun Try.prog 25 (.slice pa na ca) none (some (.int .i64 ((if (17 : Int) < ((na : Nat) : Int) then 17 else (na : Nat))))) none (.slice pa ((min na 17)) ca)]) (al1 (by rw [min_if17]; exact slE_hi (P := Try.prog) (h := (min na 17)) (T := 25) (e := 47) (k := 3) (by_ := 24) (by kernel_rfl) (by omega))) ?_
    refine od_ ?_
    exact wk (hmx21 () trivial) [1, 2, 4, 10, 18] [[_], [_]] [0, 1] rfl rfl
  refine any_cutX (V := Unit) (fun _ => True) 8 #[true, true, true, true, true, true, true, true, false, true, false, true, true, true, true, false, false, false, false, false, false] (fun _ => [(1, .pointer (some ⟨γ1 0, 0, none⟩)), (2, .pointer (some ⟨γ1 1, 0, none⟩)), (5, .slice p n cap), (10, .int .i64 ((if (33 : Int) < ((n : Nat) : Int) then 33 else (n : Nat)))), (12, .pointer (some ⟨γ1 0, 2, none⟩)), (17, .int .i64 ((if (17 : Int) < ((na : Nat) : Int) then 17 else (na : Nat))))]) (fun _ => [bx (γ1 1) (#[.int .i64 0, .slice none 0 0, .slice none 0 0]) 27, bx (γ1 0) (#[.int .i64 now, .slice p n cap, .slice pa na ca]) 27]) ?_ (fun hmx17 => ?_)
  ·
   rintro _ _
   refine any_fork [8, 10] (by kernel_rfl) (by simp) (each_cons _ rfl ?_ (each_cons _ rfl ?_ (each_nil)))
   ·
    refine qo 1 [(8, .sl (.slice p ((min n 33)) cap))] [1, 2, 12, 17] [(11, .slice p ((min n 33)) cap)] ([SlRun Try.prog 22 (.slice p n cap) none (some (.int .i64 ((if (33 : Int) < ((n : Nat) : Int) then 33 else (n : Nat))))) none (.slice p ((min n 33)) cap)]) (al1 (by rw [min_if33]; exact slE_hi (P := Try.prog) (h := (min n 33)) (T := 22) (e := 88) (k := 2) (by_ := 16) (by kernel_rfl) (by omega))) ?_
    refine od_ ?_
    exact wk (hmx20 () trivial) [1, 2, 11, 12, 17] [[_], [_]] [0, 1] rfl rfl
   ·
    refine qo0 1 [(10, .go (owns 1 2 1))] [1, 2, 5, 10, 17] [(13, .slice pa na ca)] ?_
    refine od_ ?_
    exact wk (hmx19 () trivial) [1, 2, 5, 10, 13, 17] [[_], [_]] [0, 1] rfl rfl
  refine any_cutX (V := Unit) (fun _ => True) 9 #[true, true, true, true, true, false, false, false, false, true, true, true, true, true, true, true, false, false, false, false, false] (fun _ => [(1, .pointer (some ⟨γ1 0, 0, none⟩)), (2, .pointer (some ⟨γ1 1, 0, none⟩)), (5, .slice p n cap), (7, .pointer (some ⟨γ1 0, 1, none⟩)), (18, .slice pa ((min na 17)) ca)]) (fun _ => [bx (γ1 1) (#[.int .i64 0, .slice none 0 0, .slice none 0 0]) 27, bx (γ1 0) (#[.int .i64 now, .slice p n cap, .slice pa na ca]) 27]) ?_ (fun hmx16 => ?_)
  ·
   rintro _ _
   refine a1 5 rfl ?_
   refine qo0 1 [(5, .go (owns 1 1 1))] [1, 2, 5, 18] [(8, .slice p n cap)] ?_
   refine od_ ?_
   refine tk (m := 6) [6, 7] [] [1, 2, 5, 18] [(10, .int .i64 ((if (33 : Int) < ((n : Nat) : Int) then 33 else (n : Nat))))] ([]) #[true, true, true, true, true, true, true, true, false, true, true, true, true, true, true, true, false, false, false, false, false] al0 ?_
   exact wk (hmx22 () trivial) [1, 2, 5, 10, 18] [[_], [_]] [0, 1] rfl rfl
  refine any_cutX (V := Unit) (fun _ => True) 9 #[true, true, true, true, true, true, true, true, true, true, true, true, false, false, false, false, false, false, false, false, false] (fun _ => [(1, .pointer (some ⟨γ1 0, 0, none⟩)), (2, .pointer (some ⟨γ1 1, 0, none⟩)), (11, .slice p ((min n 33)) cap), (13, .slice pa na ca), (14, .pointer (some ⟨γ1 0, 2, none⟩))]) (fun _ => [bx (γ1 1) (#[.int .i64 0, .slice none 0 0, .slice none 0 0]) 27, bx (γ1 0) (#[.int .i64 now, .slice p n cap, .slice pa na ca]) 27]) ?_ (fun hmx15 => ?_)
  ·
   rintro _ _
   refine a1 12 rfl ?_
   refine qo0 1 [(12, .go (owns 1 2 1))] [1, 2, 11, 13] [(15, .slice pa na ca)] ?_
   refine od_ ?_
   refine tk (m := 4) [13, 14, 16, 17] [] [1, 2, 11, 13] [(17, .int .i64 ((if (17 : Int) < ((na : Nat) : Int) then 17 else (na : Nat)))), (20, .pointer (some ⟨γ1 0, 1, none⟩))] ([]) #[true, true, true, true, true, true, true, true, true, true, true, true, true, true, true, false, true, true, false, false, false] al0 ?_
   exact wk (hmx23 () trivial) [1, 2, 11, 13, 17, 20] [[_], [_]] [0, 1] rfl rfl
  refine any_cutX (V := Unit) (fun _ => True) 9 #[true, true, false, true, true, true, true, true, false, true, false, true, true, true, true, false, false, false, false, false, false] (fun _ => [(1, .pointer (some ⟨γ1 0, 0, none⟩)), (2, .pointer (some ⟨γ1 1, 0, none⟩)), (4, .pointer (some ⟨γ1 0, 1, none⟩)), (10, .int .i64 ((if (33 : Int) < ((n : Nat) : Int) then 33 else (n : Nat)))), (12, .pointer (some ⟨γ1 0, 2, none⟩)), (17, .int .i64 ((if (17 : Int) < ((na : Nat) : Int) then 17 else (na : Nat))))]) (fun _ => [bx (γ1 1) (#[.int .i64 0, .slice none 0 0, .slice none 0 0]) 27, bx (γ1 0) (#[.int .i64 now, .slice p n cap, .slice pa na ca]) 27]) ?_ (fun hmx14 => ?_)
  ·
   rintro _ _
   refine any_fork [2, 10] (by kernel_rfl) (by simp) (each_cons _ rfl ?_ (each_cons _ rfl ?_ (each_nil)))
   ·
    refine qo0 1 [(2, .go (owns 1 1 1))] [1, 2, 10, 12, 17] [(5, .slice p n cap)] ?_
    refine od_ ?_
    exact wk (hmx17 () trivial) [1, 2, 5, 10, 12, 17] [[_], [_]] [0, 1] rfl rfl
   ·
    refine qo0 1 [(10, .go (owns 1 2 1))] [1, 2, 4, 10, 17] [(13, .slice pa na ca)] ?_
    refine od_ ?_
    exact wk (hmx18 () trivial) [1, 2, 4, 10, 13, 17] [[_], [_]] [0, 1] rfl rfl
  refine any_cutX (V := Unit) (fun _ => True) 10 #[true, true, false, true, true, false, false, false, false, true, true, true, true, true, true, true, false, false, false, false, false] (fun _ => [(1, .pointer (some ⟨γ1 0, 0, none⟩)), (2, .pointer (some ⟨γ1 1, 0, none⟩)), (4, .pointer (some ⟨γ1 0, 1, none⟩)), (7, .pointer (some ⟨γ1 0, 1, none⟩)), (18, .slice pa ((min na 17)) ca)]) (fun _ => [bx (γ1 1) (#[.int .i64 0, .slice none 0 0, .slice none 0 0]) 27, bx (γ1 0) (#[.int .i64 now, .slice p n cap, .slice pa na ca]) 27]) ?_ (fun hmx13 => ?_)
  ·
   rintro _ _
   refine any_fork [2, 5] (by kernel_rfl) (by simp) (each_cons _ rfl ?_ (each_cons _ rfl ?_ (each_nil)))
   ·
    refine qo0 1 [(2, .go (owns 1 1 1))] [1, 2, 7, 18] [(5, .slice p n cap)] ?_
    refine od_ ?_
    exact wk (hmx16 () trivial) [1, 2, 5, 7, 18] [[_], [_]] [0, 1] rfl rfl
   ·
    refine qo0 1 [(5, .go (owns 1 1 1))] [1, 2, 4, 18] [(8, .slice p n cap)] ?_
    refine od_ ?_
    refine tk (m := 7) [6, 7] [] [1, 2, 4, 18] [(10, .int .i64 ((if (33 : Int) < ((n : Nat) : Int) then 33 else (n : Nat))))] ([]) #[true, true, false, true, true, true, true, true, false, true, true, true, true, true, true, true, false, false, false, false, false] al0 ?_
    exact wk (hmx21 () trivial) [1, 2, 4, 10, 18] [[_], [_]] [0, 1] rfl rfl
  refine any_cutX (V := Unit) (fun _ => True) 10 #[true, true, true, true, true, true, true, true, true, true, false, true, false, false, false, false, false, false, false, false, false] (fun _ => [(1, .pointer (some ⟨γ1 0, 0, none⟩)), (2, .pointer (some ⟨γ1 1, 0, none⟩)), (11, .slice p ((min n 33)) cap), (12, .pointer (some ⟨γ1 0, 2, none⟩)), (14, .pointer (some ⟨γ1 0, 2, none⟩))]) (fun _ => [bx (γ1 1) (#[.int .i64 0, .slice none 0 0, .slice none 0 0]) 27, bx (γ1 0) (#[.int .i64 now, .slice p n cap, .slice pa na ca]) 27]) ?_ (fun hmx12 => ?_)
  ·
   rintro _ _
   refine any_fork [10, 12] (by kernel_rfl) (by simp) (each_cons _ rfl ?_ (each_cons _ rfl ?_ (each_nil)))
   ·
    refine qo0 1 [(10, .go (owns 1 2 1))] [1, 2, 11, 14] [(13, .slice pa na ca)] ?_
    refine od_ ?_
    exact wk (hmx15 () trivial) [1, 2, 11, 13, 14] [[_], [_]] [0, 1] rfl rfl
   ·
    refine qo0 1 [(12, .go (owns 1 2 1))] [1, 2, 11, 12] [(15, .slice pa na ca)] ?_
    refine od_ ?_
    refine tk (m := 7) [13, 14] [] [1, 2, 11, 12] [(17, .int .i64 ((if (17 : Int) < ((na : Nat) : Int) then 17 else (na : Nat))))] ([]) #[true, true, true, true, true, true, true, true, true, true, false, true, true, true, true, false, false, false, false, false, false] al0 ?_
    exact wk (hmx20 () trivial) [1, 2, 11, 12, 17] [[_], [_]] [0, 1] rfl rfl
  refine any_cutX (V := Unit) (fun _ => True) 10 #[true, true, true, true, true, false, false, false, false, true, true, true, true, true, true, false, false, false, false, false, false] (fun _ => [(1, .pointer (some ⟨γ1 0, 0, none⟩)), (2, .pointer (some ⟨γ1 1, 0, none⟩)), (5, .slice p n cap), (7, .pointer (some ⟨γ1 0, 1, none⟩)), (13, .slice pa na ca), (17, .int .i64 ((if (17 : Int) < ((na : Nat) : Int) then 17 else (na : Nat))))]) (fun _ => [bx (γ1 1) (#[.int .i64 0, .slice none 0 0, .slice none 0 0]) 27, bx (γ1 0) (#[.int .i64 now, .slice p n cap, .slice pa na ca]) 27]) ?_ (fun hmx11 => ?_)
  ·
   rintro _ _
   refine any_fork [5, 15] (by kernel_rfl) (by simp) (each_cons _ rfl ?_ (each_cons _ rfl ?_ (each_nil)))
   ·
    refine qo0 1 [(5, .go (owns 1 1 1))] [1, 2, 5, 13, 17] [(8, .slice p n cap)] ?_
    refine od_ ?_
    refine tk (m := 7) [6, 7] [] [1, 2, 5, 13, 17] [(10, .int .i64 ((if (33 : Int) < ((n : Nat) : Int) then 33 else (n : Nat))))] ([]) #[true, true, true, true, true, true, true, true, false, true, true, true, true, true, true, false, false, false, false, false, false] al0 ?_
    exact wk (hmx19 () trivial) [1, 2, 5, 10, 13, 17] [[_], [_]] [0, 1] rfl rfl
   ·
    refine qo 1 [(15, .sl (.slice pa ((min na 17)) ca))] [1, 2, 5, 7] [(18, .slice pa ((min na 17)) ca)] ([SlRun Try.prog 25 (.slice pa na ca) none (some (.int .i64 ((if (17 : Int) < ((na : Nat) : Int) then 17 else (na : Nat))))) none (.slice pa ((min na 17)) ca)]) (al1 (by rw [min_if17]; exact slE_hi (P := Try.prog) (h := (min na 17)) (T := 25) (e := 47) (k := 3) (by_ := 24) (by kernel_rfl) (by omega))) ?_
    refine od_ ?_
    exact wk (hmx16 () trivial) [1, 2, 5, 7, 18] [[_], [_]] [0, 1] rfl rfl
  refine any_cutX (V := Unit) (fun _ => True) 10 #[true, true, true, true, true, true, true, true, false, true, true, true, false, false, false, false, false, false, false, false, false] (fun _ => [(1, .pointer (some ⟨γ1 0, 0, none⟩)), (2, .pointer (some ⟨γ1 1, 0, none⟩)), (5, .slice p n cap), (10, .int .i64 ((if (33 : Int) < ((n : Nat) : Int) then 33 else (n : Nat)))), (13, .slice pa na ca), (14, .pointer (some ⟨γ1 0, 2, none⟩))]) (fun _ => [bx (γ1 1) (#[.int .i64 0, .slice none 0 0, .slice none 0 0]) 27, bx (γ1 0) (#[.int .i64 now, .slice p n cap, .slice pa na ca]) 27]) ?_ (fun hmx10 => ?_)
  ·
   rintro _ _
   refine any_fork [8, 12] (by kernel_rfl) (by simp) (each_cons _ rfl ?_ (each_cons _ rfl ?_ (each_nil)))
   ·
    refine qo 1 [(8, .sl (.slice p ((min n 33)) cap))] [1, 2, 13, 14] [(11, .slice p ((min n 33)) cap)] ([SlRun Try.prog 22 (.slice p n cap) none (some (.int .i64 ((if (33 : Int) < ((n : Nat) : Int) then 33 else (n : Nat))))) none (.slice p ((min n 33)) cap)]) (al1 (by rw [min_if33]; exact slE_hi (P := Try.prog) (h := (min n 33)) (T := 22) (e := 88) (k := 2) (by_ := 16) (by kernel_rfl) (by omega))) ?_
    refine od_ ?_
    exact wk (hmx15 () trivial) [1, 2, 11, 13, 14] [[_], [_]] [0, 1] rfl rfl
   ·
    refine qo0 1 [(12, .go (owns 1 2 1))] [1, 2, 5, 10, 13] [(15, .slice pa na ca)] ?_
    refine od_ ?_
    refine tk (m := 7) [13, 14] [] [1, 2, 5, 10, 13] [(17, .int .i64 ((if (17 : Int) < ((na : Nat) : Int) then 17 else (na : Nat))))] ([]) #[true, true, true, true, true, true, true, true, false, true, true, true, true, true, true, false, false, false, false, false, false] al0 ?_
    exact wk (hmx19 () trivial) [1, 2, 5, 10, 13, 17] [[_], [_]] [0, 1] rfl rfl
  refine any_cutX (V := Unit) (fun _ => True) 11 #[true, true, false, true, true, false, false, false, false, true, true, true, true, true, true, false, false, false, false, false, false] (fun _ => [(1, .pointer (some ⟨γ1 0, 0, none⟩)), (2, .pointer (some ⟨γ1 1, 0, none⟩)), (4, .pointer (some ⟨γ1 0, 1, none⟩)), (7, .pointer (some ⟨γ1 0, 1, none⟩)), (13, .slice pa na ca), (17, .int .i64 ((if (17 : Int) < ((na : Nat) : Int) then 17 else (na : Nat))))]) (fun _ => [bx (γ1 1) (#[.int .i64 0, .slice none 0 0, .slice none 0 0]) 27, bx (γ1 0) (#[.int .i64 now, .slice p n cap, .slice pa na ca]) 27]) ?_ (fun hmx9 => ?_)
  ·
   rintro _ _
   refine any_fork [2, 5, 15] (by kernel_rfl) (by simp) (each_cons _ rfl ?_ (each_cons _ rfl ?_ (each_cons _ rfl ?_ (each_nil))))
   ·
    refine qo0 1 [(2, .go (owns 1 1 1))] [1, 2, 7, 13, 17] [(5, .slice p n cap)] ?_
    refine od_ ?_
    exact wk (hmx11 () trivial) [1, 2, 5, 7, 13, 17] [[_], [_]] [0, 1] rfl rfl
   ·
    refine qo0 1 [(5, .go (owns 1 1 1))] [1, 2, 4, 13, 17] [(8, .slice p n cap)] ?_
    refine od_ ?_
    refine tk (m := 8) [6, 7] [] [1, 2, 4, 13, 17] [(10, .int .i64 ((if (33 : Int) < ((n : Nat) : Int) then 33 else (n : Nat))))] ([]) #[true, true, false, true, true, true, true, true, false, true, true, true, true, true, true, false, false, false, false, false, false] al0 ?_
    exact wk (hmx18 () trivial) [1, 2, 4, 10, 13, 17] [[_], [_]] [0, 1] rfl rfl
   ·
    refine qo 1 [(15, .sl (.slice pa ((min na 17)) ca))] [1, 2, 4, 7] [(18, .slice pa ((min na 17)) ca)] ([SlRun Try.prog 25 (.slice pa na ca) none (some (.int .i64 ((if (17 : Int) < ((na : Nat) : Int) then 17 else (na : Nat))))) none (.slice pa ((min na 17)) ca)]) (al1 (by rw [min_if17]; exact slE_hi (P := Try.prog) (h := (min na 17)) (T := 25) (e := 47) (k := 3) (by_ := 24) (by kernel_rfl) (by omega))) ?_
    refine od_ ?_
    exact wk (hmx13 () trivial) [1, 2, 4, 7, 18] [[_], [_]] [0, 1] rfl rfl
  refine any_cutX (V := Unit) (fun _ => True) 11 #[true, true, false, true, true, true, true, true, false, true, true, true, false, false, false, false, false, false, false, false, false] (fun _ => [(1, .pointer (some ⟨γ1 0, 0, none⟩)), (2, .pointer (some ⟨γ1 1, 0, none⟩)), (4, .pointer (some ⟨γ1 0, 1, none⟩)), (10, .int .i64 ((if (33 : Int) < ((n : Nat) : Int) then 33 else (n : Nat)))), (13, .slice pa na ca), (14, .pointer (some ⟨γ1 0, 2, none⟩))]) (fun _ => [bx (γ1 1) (#[.int .i64 0, .slice none 0 0, .slice none 0 0]) 27, bx (γ1 0) (#[.int .i64 now, .slice p n cap, .slice pa na ca]) 27]) ?_ (fun hmx8 => ?_)
  ·
   rintro _ _
   refine any_fork [2, 12] (by kernel_rfl) (by simp) (each_cons _ rfl ?_ (each_cons _ rfl ?_ (each_nil)))
   ·
    refine qo0 1 [(2, .go (owns 1 1 1))] [1, 2, 10, 13, 14] [(5, .slice p n cap)] ?_
    refine od_ ?_
    exact wk (hmx10 () trivial) [1, 2, 5, 10, 13, 14] [[_], [_]] [0, 1] rfl rfl
   ·
    refine qo0 1 [(12, .go (owns 1 2 1))] [1, 2, 4, 10, 13] [(15, .slice pa na ca)] ?_
    refine od_ ?_
    refine tk (m := 8) [13, 14] [] [1, 2, 4, 10, 13] [(17, .int .i64 ((if (17 : Int) < ((na : Nat) : Int) then 17 else (na : Nat))))] ([]) #[true, true, false, true, true, true, true, true, false, true, true, true, true, true, true, false, false, false, false, false, false] al0 ?_
    exact wk (hmx18 () trivial) [1, 2, 4, 10, 13, 17] [[_], [_]] [0, 1] rfl rfl
  refine any_cutX (V := Unit) (fun _ => True) 11 #[true, true, true, true, true, false, false, false, false, true, false, true, true, true, true, false, false, false, false, false, false] (fun _ => [(1, .pointer (some ⟨γ1 0, 0, none⟩)), (2, .pointer (some ⟨γ1 1, 0, none⟩)), (5, .slice p n cap), (7, .pointer (some ⟨γ1 0, 1, none⟩)), (12, .pointer (some ⟨γ1 0, 2, none⟩)), (17, .int .i64 ((if (17 : Int) < ((na : Nat) : Int) then 17 else (na : Nat))))]) (fun _ => [bx (γ1 1) (#[.int .i64 0, .slice none 0 0, .slice none 0 0]) 27, bx (γ1 0) (#[.int .i64 now, .slice p n cap, .slice pa na ca]) 27]) ?_ (fun hmx7 => ?_)
  ·
   rintro _ _
   refine any_fork [5, 10] (by kernel_rfl) (by simp) (each_cons _ rfl ?_ (each_cons _ rfl ?_ (each_nil)))
   ·
    refine qo0 1 [(5, .go (owns 1 1 1))] [1, 2, 5, 12, 17] [(8, .slice p n cap)] ?_
    refine od_ ?_
    refine tk (m := 8) [6, 7] [] [1, 2, 5, 12, 17] [(10, .int .i64 ((if (33 : Int) < ((n : Nat) : Int) then 33 else (n : Nat))))] ([]) #[true, true, true, true, true, true, true, true, false, true, false, true, true, true, true, false, false, false, false, false, false] al0 ?_
    exact wk (hmx17 () trivial) [1, 2, 5, 10, 12, 17] [[_], [_]] [0, 1] rfl rfl
   ·
    refine qo0 1 [(10, .go (owns 1 2 1))] [1, 2, 5, 7, 17] [(13, .slice pa na ca)] ?_
    refine od_ ?_
    exact wk (hmx11 () trivial) [1, 2, 5, 7, 13, 17] [[_], [_]] [0, 1] rfl rfl
  refine any_cutX (V := Unit) (fun _ => True) 11 #[true, true, true, true, true, true, true, true, false, true, false, true, false, false, false, false, false, false, false, false, false] (fun _ => [(1, .pointer (some ⟨γ1 0, 0, none⟩)), (2, .pointer (some ⟨γ1 1, 0, none⟩)), (5, .slice p n cap), (10, .int .i64 ((if (33 : Int) < ((n : Nat) : Int) then 33 else (n : Nat)))), (12, .pointer (some ⟨γ1 0, 2, none⟩)), (14, .pointer (some ⟨γ1 0, 2, none⟩))]) (fun _ => [bx (γ1 1) (#[.int .i64 0, .slice none 0 0, .slice none 0 0]) 27, bx (γ1 0) (#[.int .i64 now, .slice p n cap, .slice pa na ca]) 27]) ?_ (fun hmx6 => ?_)
  ·
   rintro _ _
   refine any_fork [8, 10, 12] (by kernel_rfl) (by simp) (each_cons _ rfl ?_ (each_cons _ rfl ?_ (each_cons _ rfl ?_ (each_nil))))
   ·
    refine qo 1 [(8, .sl (.slice p ((min n 33)) cap))] [1, 2, 12, 14] [(11, .slice p ((min n 33)) cap)] ([SlRun Try.prog 22 (.slice p n cap) none (some (.int .i64 ((if (33 : Int) < ((n : Nat) : Int) then 33 else (n : Nat))))) none (.slice p ((min n 33)) cap)]) (al1 (by rw [min_if33]; exact slE_hi (P := Try.prog) (h := (min n 33)) (T := 22) (e := 88) (k := 2) (by_ := 16) (by kernel_rfl) (by omega))) ?_
    refine od_ ?_
    exact wk (hmx12 () trivial) [1, 2, 11, 12, 14] [[_], [_]] [0, 1] rfl rfl
   ·
    refine qo0 1 [(10, .go (owns 1 2 1))] [1, 2, 5, 10, 14] [(13, .slice pa na ca)] ?_
    refine od_ ?_
    exact wk (hmx10 () trivial) [1, 2, 5, 10, 13, 14] [[_], [_]] [0, 1] rfl rfl
   ·
    refine qo0 1 [(12, .go (owns 1 2 1))] [1, 2, 5, 10, 12] [(15, .slice pa na ca)] ?_
    refine od_ ?_
    refine tk (m := 8) [13, 14] [] [1, 2, 5, 10, 12] [(17, .int .i64 ((if (17 : Int) < ((na : Nat) : Int) then 17 else (na : Nat))))] ([]) #[true, true, true, true, true, true, true, true, false, true, false, true, true, true, true, false, false, false, false, false, false] al0 ?_
    exact wk (hmx17 () trivial) [1, 2, 5, 10, 12, 17] [[_], [_]] [0, 1] rfl rfl
  refine any_cutX (V := Unit) (fun _ => True) 12 #[true, true, false, true, true, false, false, false, false, true, false, true, true, true, true, false, false, false, false, false, false] (fun _ => [(1, .pointer (some ⟨γ1 0, 0, none⟩)), (2, .pointer (some ⟨γ1 1, 0, none⟩)), (4, .pointer (some ⟨γ1 0, 1, none⟩)), (7, .pointer (some ⟨γ1 0, 1, none⟩)), (12, .pointer (some ⟨γ1 0, 2, none⟩)), (17, .int .i64 ((if (17 : Int) < ((na : Nat) : Int) then 17 else (na : Nat))))]) (fun _ => [bx (γ1 1) (#[.int .i64 0, .slice none 0 0, .slice none 0 0]) 27, bx (γ1 0) (#[.int .i64 now, .slice p n cap, .slice pa na ca]) 27]) ?_ (fun hmx5 => ?_)
  ·
   rintro _ _
   refine any_fork [2, 5, 10] (by kernel_rfl) (by simp) (each_cons _ rfl ?_ (each_cons _ rfl ?_ (each_cons _ rfl ?_ (each_nil))))
   ·
    refine qo0 1 [(2, .go (owns 1 1 1))] [1, 2, 7, 12, 17] [(5, .slice p n cap)] ?_
    refine od_ ?_
    exact wk (hmx7 () trivial) [1, 2, 5, 7, 12, 17] [[_], [_]] [0, 1] rfl rfl
   ·
    refine qo0 1 [(5, .go (owns 1 1 1))] [1, 2, 4, 12, 17] [(8, .slice p n cap)] ?_
    refine od_ ?_
    refine tk (m := 9) [6, 7] [] [1, 2, 4, 12, 17] [(10, .int .i64 ((if (33 : Int) < ((n : Nat) : Int) then 33 else (n : Nat))))] ([]) #[true, true, false, true, true, true, true, true, false, true, false, true, true, true, true, false, false, false, false, false, false] al0 ?_
    exact wk (hmx14 () trivial) [1, 2, 4, 10, 12, 17] [[_], [_]] [0, 1] rfl rfl
   ·
    refine qo0 1 [(10, .go (owns 1 2 1))] [1, 2, 4, 7, 17] [(13, .slice pa na ca)] ?_
    refine od_ ?_
    exact wk (hmx9 () trivial) [1, 2, 4, 7, 13, 17] [[_], [_]] [0, 1] rfl rfl
  refine any_cutX (V := Unit) (fun _ => True) 12 #[true, true, false, true, true, true, true, true, false, true, false, true, false, false, false, false, false, false, false, false, false] (fun _ => [(1, .pointer (some ⟨γ1 0, 0, none⟩)), (2, .pointer (some ⟨γ1 1, 0, none⟩)), (4, .pointer (some ⟨γ1 0, 1, none⟩)), (10, .int .i64 ((if (33 : Int) < ((n : Nat) : Int) then 33 else (n : Nat)))), (12, .pointer (some ⟨γ1 0, 2, none⟩)), (14, .pointer (some ⟨γ1 0, 2, none⟩))]) (fun _ => [bx (γ1 1) (#[.int .i64 0, .slice none 0 0, .slice none 0 0]) 27, bx (γ1 0) (#[.int .i64 now, .slice p n cap, .slice pa na ca]) 27]) ?_ (fun hmx4 => ?_)
  ·
   rintro _ _
   refine any_fork [2, 10, 12] (by kernel_rfl) (by simp) (each_cons _ rfl ?_ (each_cons _ rfl ?_ (each_cons _ rfl ?_ (each_nil))))
   ·
    refine qo0 1 [(2, .go (owns 1 1 1))] [1, 2, 10, 12, 14] [(5, .slice p n cap)] ?_
    refine od_ ?_
    exact wk (hmx6 () trivial) [1, 2, 5, 10, 12, 14] [[_], [_]] [0, 1] rfl rfl
   ·
    refine qo0 1 [(10, .go (owns 1 2 1))] [1, 2, 4, 10, 14] [(13, .slice pa na ca)] ?_
    refine od_ ?_
    exact wk (hmx8 () trivial) [1, 2, 4, 10, 13, 14] [[_], [_]] [0, 1] rfl rfl
   ·
    refine qo0 1 [(12, .go (owns 1 2 1))] [1, 2, 4, 10, 12] [(15, .slice pa na ca)] ?_
    refine od_ ?_
    refine tk (m := 9) [13, 14] [] [1, 2, 4, 10, 12] [(17, .int .i64 ((if (17 : Int) < ((na : Nat) : Int) then 17 else (na : Nat))))] ([]) #[true, true, false, true, true, true, true, true, false, true, false, true, true, true, true, false, false, false, false, false, false] al0 ?_
    exact wk (hmx14 () trivial) [1, 2, 4, 10, 12, 17] [[_], [_]] [0, 1] rfl rfl
  refine any_cutX (V := Unit) (fun _ => True) 13 #[true, true, true, true, true, false, false, false, false, true, true, true, false, false, false, false, false, false, false, false, false] (fun _ => [(1, .pointer (some ⟨γ1 0, 0, none⟩)), (2, .pointer (some ⟨γ1 1, 0, none⟩)), (5, .slice p n cap), (7, .pointer (some ⟨γ1 0, 1, none⟩)), (13, .slice pa na ca), (14, .pointer (some ⟨γ1 0, 2, none⟩))]) (fun _ => [bx (γ1 1) (#[.int .i64 0, .slice none 0 0, .slice none 0 0]) 27, bx (γ1 0) (#[.int .i64 now, .slice p n cap, .slice pa na ca]) 27]) ?_ (fun hmx3 => ?_)
  ·
   rintro _ _
   refine any_fork [5, 12] (by kernel_rfl) (by simp) (each_cons _ rfl ?_ (each_cons _ rfl ?_ (each_nil)))
   ·
    refine qo0 1 [(5, .go (owns 1 1 1))] [1, 2, 5, 13, 14] [(8, .slice p n cap)] ?_
    refine od_ ?_
    refine tk (m := 10) [6, 7] [] [1, 2, 5, 13, 14] [(10, .int .i64 ((if (33 : Int) < ((n : Nat) : Int) then 33 else (n : Nat))))] ([]) #[true, true, true, true, true, true, true, true, false, true, true, true, false, false, false, false, false, false, false, false, false] al0 ?_
    exact wk (hmx10 () trivial) [1, 2, 5, 10, 13, 14] [[_], [_]] [0, 1] rfl rfl
   ·
    refine qo0 1 [(12, .go (owns 1 2 1))] [1, 2, 5, 7, 13] [(15, .slice pa na ca)] ?_
    refine od_ ?_
    refine tk (m := 10) [13, 14] [] [1, 2, 5, 7, 13] [(17, .int .i64 ((if (17 : Int) < ((na : Nat) : Int) then 17 else (na : Nat))))] ([]) #[true, true, true, true, true, false, false, false, false, true, true, true, true, true, true, false, false, false, false, false, false] al0 ?_
    exact wk (hmx11 () trivial) [1, 2, 5, 7, 13, 17] [[_], [_]] [0, 1] rfl rfl
  refine any_cutX (V := Unit) (fun _ => True) 14 #[true, true, false, true, true, false, false, false, false, true, true, true, false, false, false, false, false, false, false, false, false] (fun _ => [(1, .pointer (some ⟨γ1 0, 0, none⟩)), (2, .pointer (some ⟨γ1 1, 0, none⟩)), (4, .pointer (some ⟨γ1 0, 1, none⟩)), (7, .pointer (some ⟨γ1 0, 1, none⟩)), (13, .slice pa na ca), (14, .pointer (some ⟨γ1 0, 2, none⟩))]) (fun _ => [bx (γ1 1) (#[.int .i64 0, .slice none 0 0, .slice none 0 0]) 27, bx (γ1 0) (#[.int .i64 now, .slice p n cap, .slice pa na ca]) 27]) ?_ (fun hmx2 => ?_)
  ·
   rintro _ _
   refine any_fork [2, 5, 12] (by kernel_rfl) (by simp) (each_cons _ rfl ?_ (each_cons _ rfl ?_ (each_cons _ rfl ?_ (each_nil))))
   ·
    refine qo0 1 [(2, .go (owns 1 1 1))] [1, 2, 7, 13, 14] [(5, .slice p n cap)] ?_
    refine od_ ?_
    exact wk (hmx3 () trivial) [1, 2, 5, 7, 13, 14] [[_], [_]] [0, 1] rfl rfl
   ·
    refine qo0 1 [(5, .go (owns 1 1 1))] [1, 2, 4, 13, 14] [(8, .slice p n cap)] ?_
    refine od_ ?_
    refine tk (m := 11) [6, 7] [] [1, 2, 4, 13, 14] [(10, .int .i64 ((if (33 : Int) < ((n : Nat) : Int) then 33 else (n : Nat))))] ([]) #[true, true, false, true, true, true, true, true, false, true, true, true, false, false, false, false, false, false, false, false, false] al0 ?_
    exact wk (hmx8 () trivial) [1, 2, 4, 10, 13, 14] [[_], [_]] [0, 1] rfl rfl
   ·
    refine qo0 1 [(12, .go (owns 1 2 1))] [1, 2, 4, 7, 13] [(15, .slice pa na ca)] ?_
    refine od_ ?_
    refine tk (m := 11) [13, 14] [] [1, 2, 4, 7, 13] [(17, .int .i64 ((if (17 : Int) < ((na : Nat) : Int) then 17 else (na : Nat))))] ([]) #[true, true, false, true, true, false, false, false, false, true, true, true, true, true, true, false, false, false, false, false, false] al0 ?_
    exact wk (hmx9 () trivial) [1, 2, 4, 7, 13, 17] [[_], [_]] [0, 1] rfl rfl
  refine any_cutX (V := Unit) (fun _ => True) 14 #[true, true, true, true, true, false, false, false, false, true, false, true, false, false, false, false, false, false, false, false, false] (fun _ => [(1, .pointer (some ⟨γ1 0, 0, none⟩)), (2, .pointer (some ⟨γ1 1, 0, none⟩)), (5, .slice p n cap), (7, .pointer (some ⟨γ1 0, 1, none⟩)), (12, .pointer (some ⟨γ1 0, 2, none⟩)), (14, .pointer (some ⟨γ1 0, 2, none⟩))]) (fun _ => [bx (γ1 1) (#[.int .i64 0, .slice none 0 0, .slice none 0 0]) 27, bx (γ1 0) (#[.int .i64 now, .slice p n cap, .slice pa na ca]) 27]) ?_ (fun hmx1 => ?_)
  ·
   rintro _ _
   refine any_fork [5, 10, 12] (by kernel_rfl) (by simp) (each_cons _ rfl ?_ (each_cons _ rfl ?_ (each_cons _ rfl ?_ (each_nil))))
   ·
    refine qo0 1 [(5, .go (owns 1 1 1))] [1, 2, 5, 12, 14] [(8, .slice p n cap)] ?_
    refine od_ ?_
    refine tk (m := 11) [6, 7] [] [1, 2, 5, 12, 14] [(10, .int .i64 ((if (33 : Int) < ((n : Nat) : Int) then 33 else (n : Nat))))] ([]) #[true, true, true, true, true, true, true, true, false, true, false, true, false, false, false, false, false, false, false, false, false] al0 ?_
    exact wk (hmx6 () trivial) [1, 2, 5, 10, 12, 14] [[_], [_]] [0, 1] rfl rfl
   ·
    refine qo0 1 [(10, .go (owns 1 2 1))] [1, 2, 5, 7, 14] [(13, .slice pa na ca)] ?_
    refine od_ ?_
    exact wk (hmx3 () trivial) [1, 2, 5, 7, 13, 14] [[_], [_]] [0, 1] rfl rfl
   ·
    refine qo0 1 [(12, .go (owns 1 2 1))] [1, 2, 5, 7, 12] [(15, .slice pa na ca)] ?_
    refine od_ ?_
    refine tk (m := 11) [13, 14] [] [1, 2, 5, 7, 12] [(17, .int .i64 ((if (17 : Int) < ((na : Nat) : Int) then 17 else (na : Nat))))] ([]) #[true, true, true, true, true, false, false, false, false, true, false, true, true, true, true, false, false, false, false, false, false] al0 ?_
    exact wk (hmx7 () trivial) [1, 2, 5, 7, 12, 17] [[_], [_]] [0, 1] rfl rfl
  refine any_fork [2, 5, 10, 12] (by kernel_rfl) (by simp) (each_cons _ rfl ?_ (each_cons _ rfl ?_ (each_cons _ rfl ?_ (each_cons _ rfl ?_ (each_nil)))))
  ·
   refine qo0 1 [(2, .go (owns 1 1 1))] [1, 2, 7, 12, 14] [(5, .slice p n cap)] ?_
   refine od_ ?_
   exact wk (hmx1 () trivial) [1, 2, 5, 7, 12, 14] [[_], [_]] [0, 1] rfl rfl
  ·
   refine qo0 1 [(5, .go (owns 1 1 1))] [1, 2, 4, 12, 14] [(8, .slice p n cap)] ?_
   refine od_ ?_
   refine tk (m := 12) [6, 7] [] [1, 2, 4, 12, 14] [(10, .int .i64 ((if (33 : Int) < ((n : Nat) : Int) then 33 else (n : Nat))))] ([]) #[true, true, false, true, true, true, true, true, false, true, false, true, false, false, false, false, false, false, false, false, false] al0 ?_
   exact wk (hmx4 () trivial) [1, 2, 4, 10, 12, 14] [[_], [_]] [0, 1] rfl rfl
  ·
   refine qo0 1 [(10, .go (owns 1 2 1))] [1, 2, 4, 7, 14] [(13, .slice pa na ca)] ?_
   refine od_ ?_
   exact wk (hmx2 () trivial) [1, 2, 4, 7, 13, 14] [[_], [_]] [0, 1] rfl rfl
  ·
   refine qo0 1 [(12, .go (owns 1 2 1))] [1, 2, 4, 7, 12] [(15, .slice pa na ca)] ?_
   refine od_ ?_
   refine tk (m := 12) [13, 14] [] [1, 2, 4, 7, 12] [(17, .int .i64 ((if (17 : Int) < ((na : Nat) : Int) then 17 else (na : Nat))))] ([]) #[true, true, false, true, true, false, false, false, false, true, false, true, true, true, true, false, false, false, false, false, false] al0 ?_
   exact wk (hmx5 () trivial) [1, 2, 4, 7, 12, 17] [[_], [_]] [0, 1] rfl rfl
 rintro _ _
 refine any_nil (by kernel_rfl) ?_
 refine ds_ (sq_ (ao_ (qo0 1 [(0, .go (owns 1 0 3))] [2] [(22, .agg #[.int .i64 now, .slice p ((min n 33)) cap, .slice pa ((min na 17)) ca])] (cP (fun v L' => ∃ q_ m_ c_ Y_ q2_ m2_ c2_ X_, v = .agg #[.int .i64 now, .slice q_ m_ c_, .slice q2_ m2_ c2_] ∧ L' = List.take 2 ([bx (γ1 1) (#[.int .i64 0, .slice none 0 0, .slice none 0 0]) 27, bx (γ1 0) (#[.int .i64 now, .slice p ((min n 33)) cap, .slice pa ((min na 17)) ca]) 27]) ++ (Y_ ++ (X_ ++ List.drop 2 ([bx (γ1 1) (#[.int .i64 0, .slice none 0 0, .slice none 0 0]) 27, bx (γ1 0) (#[.int .i64 now, .slice p ((min n 33)) cap, .slice pa ((min na 17)) ca]) 27]))) ∧ SlO 88 Y_ q_ m_ c_ (((ts.take (min n 33)))) ∧ SlO 47 X_ q2_ m2_ c2_ (((rs.take (min na 17))))) Try.call26 (fun w hw => (copy_t now p ((min n 33)) cap ((ts.take (min n 33))) pa ((min na 17)) ca ((rs.take (min na 17))) w ((hts.kept hw.below).take (min n 33)) (by rw [List.length_take]; omega) (by omega) ((hrs.kept hw.below).take (min na 17)) (by rw [List.length_take]; omega) (by omega)).mono fun e w' ⟨q_, m_, c_, Y_, q2_, m2_, c2_, X_, he, h1, h2, hb, hY⟩ => ⟨_, _, he, ⟨q_, m_, c_, Y_, q2_, m2_, c2_, X_, rfl, rfl, h1, h2⟩, hw.joinT hb hY 2⟩) ?_))))
 rintro v508 L508 ⟨q508, m508, c508, Y508, p508, k508, d508, Yx508, rfl, rfl, hO508, hP508⟩
 have hm508 := hO508.len
 have hn508 := hP508.len
 refine mo0 1 [(2, .go (owns 0 0 3))] [2] (fun _ => []) (fun _ L => (L.set 0 (bx (γ1 1) (#[.int .i64 now, .slice q508 m508 c508, .slice p508 k508 d508]) 27))) (fun _ => on_ (ds_ (rt (owns 0 0 3) (.agg #[.int .i64 now, .slice q508 m508 c508, .slice p508 k508 d508]) ?_)))
 rw [take_min hn] at hO508
 rw [take_min hna] at hP508
 exact fun w' hw => ⟨_, _, _, _, _, _, _, _, rfl, hO508, hP508, hw.below, two_tails (Hs.pick [[bx (γ1 1) (#[.int .i64 now, .slice q508 m508 c508, .slice p508 k508 d508]) 27], [bx (γ1 0) (#[.int .i64 now, .slice p ((min n 33)) cap, .slice pa ((min na 17)) ca]) 27], Y508, Yx508] [2, 3] [0, 1] (by kernel_rfl) hw)⟩

end Go.Proofs.Ytdbamgbgnpadjaa

/-! Alarms: the document's answers; plain. -/
namespace Go.Proofs.Ytdbamgbgnpadjaa
open Go Go.RowKit

section
variable {now k v at_ to nx : Int} {ts : List Tim} {rs : List Alm} {x y : Alm} {t : Tim} {j : Nat}
/-- What the document's Get and Sleeps answer. -/
def rgV (ts : List Tim) (rs : List Alm) (k : Int) : Value := match getK Alm.vcpu rs k with
  | some x => .tuple #[.agg #[.int .i64 x.vcpu, .int .i64 x.port, .int .i64 x.every], .int .i64 (atR ts (k - 1)), .bool true]
  | none => .tuple #[.agg #[.int .i64 0, .int .i64 0, .int .i64 0], .int .i64 0, .bool false]
def rslV (ts : List Tim) (k : Int) : Int := if vcB k = true then atR ts (15 + k) else 0
end
end Go.Proofs.Ytdbamgbgnpadjaa

/-! Alarms: what stands after time has passed, number by number; plain. -/
namespace Go.Proofs.Ytdbamgbgnpadjaa
open Go Go.RowKit

section
variable {now k v at_ to nx : Int} {ts : List Tim} {rs : List Alm} {x y : Alm} {t : Tim} {j : Nat}
/-- What becomes of a timer that has fired. -/
def finT (to : Int) (rs : List Alm) (t : Tim) : Option Tim := if t.id < 16 then match getK Alm.vcpu rs (t.id + 1) with
  | some x => (nextA x t.due to).map fun nx => ⟨t.id, nx⟩
  | none => none
  else none
theorem fin_lo (h : t.id < 16) (hx : getK Alm.vcpu rs (t.id + 1) = some x) : finT to rs t = (nextA x t.due to).map fun nx => ⟨t.id, nx⟩ := by simp only [finT, if_pos h, hx]
theorem fin_hi (h : ¬ t.id < 16) : finT to rs t = none := by simp only [finT, if_neg h]
theorem take_pair {α : Type} {R : α → α → Prop} {l : List α} {a b : α} (hp : l.Pairwise R) (ha : a ∈ l.take j) (hb : l[j]? = some b) : R a b := by
  obtain ⟨i, hi⟩ := List.mem_iff_getElem?.1 ha
  rw [List.getElem?_take] at hi
  split at hi
  · rename_i hij
    obtain ⟨h1, e1⟩ := List.getElem?_eq_some_iff.1 hi
    obtain ⟨h2, e2⟩ := List.getElem?_eq_some_iff.1 hb
    rw [← e1, ← e2]
    exact List.pairwise_iff_getElem.1 hp i j h1 h2 hij
  · cases hi
theorem left_none (hg : GoodW now ts) (h : t ∈ sortT (duL ts to)) : getK Tim.id (leL ts to) t.id = none := by
  refine getK_none.2 fun y hy e => ?_
  have h1 := mem_leL.1 hy
  have h2 := fired_tm hg h
  have := hg.rs.inj h1.1 h2.2.2.2.2 e
  subst this
  omega
theorem states (g : GoodA now ts rs) (h1 : now ≤ to) (h2 : to ≤ 1125899906842624) : ∀ j ≤ (sortT (duL ts to)).length,
    (∀ k, (∀ t ∈ (sortT (duL ts to)).take j, t.id ≠ k) → getK Tim.id (rgT to ts rs j) k = getK Tim.id (leL ts to) k) ∧
    (∀ t ∈ (sortT (duL ts to)).take j, getK Tim.id (rgT to ts rs j) t.id = finT to rs t) ∧
    (∀ v, (∀ t ∈ (sortT (duL ts to)).take j, t.id < 16 → t.id + 1 ≠ v) → getK Alm.vcpu (rgR to ts rs j) v = getK Alm.vcpu rs v) ∧
    (∀ t ∈ (sortT (duL ts to)).take j, t.id < 16 → getK Alm.vcpu (rgR to ts rs j) (t.id + 1) = if (finT to rs t).isSome then getK Alm.vcpu rs (t.id + 1) else none)
  | 0, _ => ⟨fun _ _ => rfl, fun t ht => by simp at ht, fun _ _ => rfl, fun t ht => by simp at ht⟩
  | j + 1, hj => by
    obtain ⟨hT1, hT2, hR1, hR2⟩ := states g h1 h2 j (by omega)
    obtain ⟨hI, _, hR0⟩ := rings_inv g h1 h2 j (by omega)
    obtain ⟨t, hx⟩ : ∃ t, (sortT (duL ts to))[j]? = some t := ⟨_, List.getElem?_eq_getElem (by omega)⟩
    have hne := fun {b} (hb : b ∈ (sortT (duL ts to)).take j) => take_pair (fired_ids g.gw (to := to)) hb hx
    have hnl := left_none g.gw (to := to) (List.mem_of_getElem? hx)
    have hTt : getK Tim.id (rgT to ts rs j) t.id = none := by rw [hT1 t.id fun b hb => hne hb]; exact hnl
    have hrT : Ris Tim.id (rgT to ts rs j) := (wheel_iff.1 hI.wh').rs
    rw [take_one hx]
    by_cases hi : t.id < 16
    · obtain ⟨x, hz⟩ := hI.pn' t (mem_at hx) hi
      have hz2 := hz
      rw [hR0 t (mem_at hx)] at hz2
      have hzv := (getK_mem hz).2
      cases hn : nextA x t.due to with
      | some nx =>
        have e := rg_go hx hi hz hn
        have ef : finT to rs t = some ⟨t.id, nx⟩ := by rw [fin_lo hi hz2, hn]; rfl
        rw [rgT_of e, rgR_of e]
        refine ⟨fun k hk => ?_, fun b hb => ?_, fun v hv => ?_, fun b hb hbi => ?_⟩
        · rw [get_tput hrT (fun e => hk t (by simp) e.symm)]
          exact hT1 k fun b hb => hk b (by simp [hb])
        · rcases List.mem_append.1 hb with hb | hb
          · rw [get_tput hrT (hne hb)]; exact hT2 b hb
          · rw [List.mem_singleton.1 hb, get_tput_self hrT, ef]
        · exact hR1 v fun b hb => hv b (by simp [hb])
        · rcases List.mem_append.1 hb with hb | hb
          · exact hR2 b hb hbi
          · rw [List.mem_singleton.1 hb, ef, hz, hz2]; rfl
      | none =>
        have e := rg_no hx hi hz hn
        have ef : finT to rs t = none := by rw [fin_lo hi hz2, hn]; rfl
        rw [rgT_of e, rgR_of e, hzv]
        refine ⟨fun k hk => ?_, fun b hb => ?_, fun v hv => ?_, fun b hb hbi => ?_⟩
        · exact hT1 k fun b hb => hk b (by simp [hb])
        · rcases List.mem_append.1 hb with hb | hb
          · exact hT2 b hb
          · rw [List.mem_singleton.1 hb, hTt, ef]
        · rw [get_rdrop hI.rr' (fun e => hv t (by simp) hi e.symm)]
          exact hR1 v fun b hb => hv b (by simp [hb])
        · rcases List.mem_append.1 hb with hb | hb
          · rw [get_rdrop hI.rr' (by have := hne hb; omega)]; exact hR2 b hb hbi
          · rw [List.mem_singleton.1 hb, ef, get_rdrop_self]; rfl
    · have e := rg_hi (rs := rs) hx hi
      have ef : finT to rs t = none := fin_hi hi
      rw [rgT_of e, rgR_of e]
      refine ⟨fun k hk => ?_, fun b hb => ?_, fun v hv => ?_, fun b hb hbi => ?_⟩
      · exact hT1 k fun b hb => hk b (by simp [hb])
      · rcases List.mem_append.1 hb with hb | hb
        · exact hT2 b hb
        · rw [List.mem_singleton.1 hb, hTt, ef]
      · exact hR1 v fun b hb => hv b (by simp [hb])
      · rcases List.mem_append.1 hb with hb | hb
        · exact hR2 b hb hbi
        · rw [List.mem_singleton.1 hb] at hbi; exact absurd hbi hi
/-- The timer of a number, after. -/
theorem get_left (hg : GoodW now ts) : getK Tim.id (leL ts to) k = match getK Tim.id ts k with
    | some t => if to < t.due then some t else none
    | none => none := by
  have hr : Ris Tim.id (leL ts to) := by rw [leL_filter]; exact hg.rs.filter _
  cases e : getK Tim.id ts k with
  | none => exact getK_none.2 fun y hy => getK_none.1 e y (mem_leL.1 hy).1
  | some t =>
    have hm := (getK_iff hg.rs).1 e
    simp only
    split
    · rename_i h; exact (getK_iff hr).2 ⟨mem_leL.2 ⟨hm.1, h⟩, hm.2⟩
    · rename_i h
      refine getK_none.2 fun y hy hk => ?_
      have h1 := mem_leL.1 hy
      have := hg.rs.inj h1.1 hm.1 (by rw [hk, hm.2])
      subst this
      exact h h1.2
theorem after_T (g : GoodA now ts rs) (h1 : now ≤ to) (h2 : to ≤ 1125899906842624) (k : Int) : getK Tim.id (ringsV to ts rs).1 k = match getK Tim.id ts k with
    | some t => if to < t.due then some t else finT to rs t
    | none => none := by
  obtain ⟨hT1, hT2, _, _⟩ := states g h1 h2 _ (Nat.le_refl _)
  rw [List.take_length] at hT1 hT2
  have e : (ringsV to ts rs).1 = rgT to ts rs (sortT (duL ts to)).length := by rw [rgT, rg_end (Nat.le_refl _)]
  rw [e]
  by_cases hf : ∃ t ∈ sortT (duL ts to), t.id = k
  · obtain ⟨t, ht, rfl⟩ := hf
    have hm := fired_tm g.gw ht
    rw [hT2 t ht, (getK_iff g.gw.rs).2 ⟨hm.2.2.2.2, rfl⟩]
    simp only
    rw [if_neg (by omega)]
  · rw [hT1 k fun t ht e => hf ⟨t, ht, e⟩, get_left g.gw]
    cases e : getK Tim.id ts k with
    | none => rfl
    | some t =>
      have hm := getK_mem e
      simp only
      split
      · rfl
      · rename_i h; exact absurd ⟨t, mem_sortT.2 (mem_duL.2 ⟨hm.1, by omega⟩), hm.2⟩ hf
theorem after_R (g : GoodA now ts rs) (h1 : now ≤ to) (h2 : to ≤ 1125899906842624) (v : Int) (hv1 : 1 ≤ v) (hv2 : v ≤ 16) : getK Alm.vcpu (ringsV to ts rs).2.1 v = match getK Tim.id ts (v - 1) with
    | some t => if to < t.due then getK Alm.vcpu rs v else if (finT to rs t).isSome then getK Alm.vcpu rs v else none
    | none => none := by
  obtain ⟨_, _, hR1, hR2⟩ := states g h1 h2 _ (Nat.le_refl _)
  rw [List.take_length] at hR1 hR2
  have e : (ringsV to ts rs).2.1 = rgR to ts rs (sortT (duL ts to)).length := by rw [rgR, rg_end (Nat.le_refl _)]
  rw [e]
  by_cases hf : ∃ t ∈ sortT (duL ts to), t.id = v - 1
  · obtain ⟨t, ht, hk⟩ := hf
    have hm := fired_tm g.gw ht
    have hv : v = t.id + 1 := by omega
    subst hv
    rw [hR2 t ht (by omega), show t.id + 1 - 1 = t.id by omega, (getK_iff g.gw.rs).2 ⟨hm.2.2.2.2, rfl⟩]
    simp only
    rw [if_neg (show ¬ to < t.due by omega)]
  · rw [hR1 v fun t ht _ e => hf ⟨t, ht, by omega⟩]
    cases e : getK Tim.id ts (v - 1) with
    | none =>
      have := g.lk v hv1 hv2
      rw [e] at this
      simp only
      exact Option.isNone_iff_eq_none.1 (by cases h : getK Alm.vcpu rs v with
        | none => rfl
        | some x => rw [h] at this; cases this)
    | some t =>
      have hm := getK_mem e
      simp only
      rw [if_pos]
      have : ¬ t.due ≤ to := fun h => hf ⟨t, mem_sortT.2 (mem_duL.2 ⟨hm.1, h⟩), hm.2⟩
      omega
end
end Go.Proofs.Ytdbamgbgnpadjaa

/-! Alarms: by way of another time; plain. -/
namespace Go.Proofs.Ytdbamgbgnpadjaa
open Go Go.RowKit

section
variable {now k v at_ to nx one two : Int} {ts : List Tim} {rs : List Alm} {x y : Alm} {t : Tim} {j : Nat}
theorem ris_same {α : Type} {f : α → Int} {l l' : List α} (h : Ris f l) (h' : Ris f l') (e : ∀ k, getK f l k = getK f l' k) : l = l' :=
  ris_ext h h' fun x => by
    constructor
    · intro hx; have := (getK_iff h).2 ⟨hx, rfl⟩; rw [e] at this; exact (getK_mem this).1
    · intro hx; have := (getK_iff h').2 ⟨hx, rfl⟩; rw [← e] at this; exact (getK_mem this).1
theorem after_good (g : GoodA now ts rs) (h1 : now ≤ to) (h2 : to ≤ 1125899906842624) : GoodA to (ringsV to ts rs).1 (ringsV to ts rs).2.1 := by
  have hI := rings_good g h1 h2
  have e := rg_end (rs := rs) (to := to) (ts := ts) (Nat.le_refl (sortT (duL ts to)).length)
  refine ⟨by rw [← e]; exact hI.rr, by rw [← e]; exact hI.al, by rw [← e]; exact hI.wh, fun v hv1 hv2 => ?_⟩
  rw [after_T g h1 h2, after_R g h1 h2 v hv1 hv2]
  have hl := g.lk v hv1 hv2
  cases hk : getK Tim.id ts (v - 1) with
  | none => rfl
  | some t =>
    rw [hk] at hl
    obtain ⟨x, hx⟩ := Option.isSome_iff_exists.1 hl.symm
    simp only [hx]
    split
    · rfl
    · cases finT to rs t <;> rfl
theorem miss_keep (h : almB x = true) (h0 : x.every ≠ 0) (h1 : at_ ≤ one) (h2 : one ≤ two) (h3 : two < againM x at_ one) : missA x at_ two = missA x at_ one := by
  have ha := alm_every h
  have hp : 0 < x.every := by omega
  have hb := (miss_bnd h h1).2
  rw [againM_eq h0] at h3
  have hu : (two - at_) / x.every < missA x at_ one + 1 := Int.ediv_lt_of_lt_mul hp (by rw [Int.add_mul, Int.one_mul]; omega)
  have hl : missA x at_ one ≤ (two - at_) / x.every := Int.le_ediv_of_mul_le hp (by omega)
  have e : missA x at_ two = (two - at_) / x.every := if_neg h0
  omega
theorem miss_more (h : almB x = true) (h0 : x.every ≠ 0) : missA x at_ two = missA x at_ one + 1 + missA x (againM x at_ one) two := by
  have ha := alm_every h
  have hp : x.every ≠ 0 := h0
  have e1 : missA x at_ two = (two - at_) / x.every := if_neg h0
  have e2 : missA x (againM x at_ one) two = (two - againM x at_ one) / x.every := if_neg h0
  have e3 : two - at_ = (two - againM x at_ one) + (missA x at_ one + 1) * x.every := by rw [againM_eq h0, Int.add_mul, Int.one_mul]; omega
  rw [e1, e2, e3, Int.add_mul_ediv_right _ _ hp]
  omega
theorem again_more (h : almB x = true) (h0 : x.every ≠ 0) : againM x (againM x at_ one) two = againM x at_ two := by
  rw [againM_eq h0, againM_eq (to := two) h0, miss_more (one := one) (at_ := at_) h h0]
  conv => lhs; rw [againM_eq (to := one) h0]
  rw [Int.add_mul, Int.add_mul, Int.one_mul]
  have e : againM x at_ one = at_ + missA x at_ one * x.every + x.every := againM_eq h0
  rw [← e]
  omega
theorem next_far (h : almB x = true) (h1 : at_ ≤ one) (h2 : one ≤ two) (h3 : two < againM x at_ one) (h0 : x.every ≠ 0) : nextA x at_ two = nextA x at_ one := by
  have e : againM x at_ two = againM x at_ one := by rw [againM_eq h0, againM_eq h0, miss_keep h h0 h1 h2 h3]
  unfold nextA
  rw [e]
theorem next_gone (h : almB x = true) (h1 : at_ ≤ one) (h2 : one ≤ two) (h3 : two ≤ 1125899906842624) (e : nextA x at_ one = none) : nextA x at_ two = none ∧ missA x at_ two = missA x at_ one := by
  by_cases h0 : x.every = 0
  · exact ⟨next_zero h0, by rw [miss_zero h0, miss_zero h0]⟩
  · have hb : ¬ againM x at_ one ≤ 1125899906842624 := fun hle => by rw [next_is h0 hle] at e; cases e
    exact ⟨by rw [next_far h h1 h2 (by omega) h0]; exact e, miss_keep h h0 h1 h2 (by omega)⟩
theorem next_near (h : almB x = true) (e : nextA x at_ one = some nx) : nextA x nx two = nextA x at_ two ∧ missA x at_ two = missA x at_ one + 1 + missA x nx two := by
  obtain ⟨h0, e1, _⟩ := next_some e
  subst e1
  refine ⟨?_, miss_more h h0⟩
  unfold nextA
  rw [again_more h h0]
theorem next_late (h : almB x = true) (h1 : at_ ≤ one) (h2 : one ≤ two) (e : nextA x at_ one = some nx) (h3 : two < nx) : nextA x at_ two = some nx ∧ missA x at_ two = missA x at_ one := by
  obtain ⟨h0, e1, _⟩ := next_some e
  subst e1
  exact ⟨by rw [next_far h h1 h2 h3 h0]; exact e, miss_keep h h0 h1 h2 h3⟩
theorem twice_T (g : GoodA now ts rs) (h1 : now ≤ one) (h2 : one ≤ two) (h3 : two ≤ 1125899906842624) (k : Int) :
    getK Tim.id (ringsV two (ringsV one ts rs).1 (ringsV one ts rs).2.1).1 k = getK Tim.id (ringsV two ts rs).1 k := by
  have g1 := after_good g h1 (Int.le_trans h2 h3)
  rw [after_T g1 h2 h3, after_T g h1 (Int.le_trans h2 h3), after_T g (Int.le_trans h1 h2) h3]
  cases hk : getK Tim.id ts k with
  | none => rfl
  | some t =>
    have hm := getK_mem hk
    have hti := g.gw.tm t hm.1
    simp only
    by_cases ha : one < t.due
    · rw [if_pos ha]
      simp only
      by_cases hb : two < t.due
      · rw [if_pos hb, if_pos hb]
      · rw [if_neg hb, if_neg hb]
        by_cases hi : t.id < 16
        · have hR := after_R g h1 (Int.le_trans h2 h3) (t.id + 1) (by omega) (by omega)
          rw [show t.id + 1 - 1 = k by omega, hk] at hR
          simp only at hR
          rw [if_pos ha] at hR
          simp only [finT, if_pos hi, hR]
        · rw [fin_hi hi, fin_hi hi]
    · rw [if_neg ha, if_neg (show ¬ two < t.due by omega)]
      by_cases hi : t.id < 16
      · have hl := g.lk (t.id + 1) (by omega) (by omega)
        rw [show t.id + 1 - 1 = k by omega, hk] at hl
        obtain ⟨x, hx⟩ := Option.isSome_iff_exists.1 hl.symm
        have hax := g.al x (getK_mem hx).1
        have hR := after_R g h1 (Int.le_trans h2 h3) (t.id + 1) (by omega) (by omega)
        rw [show t.id + 1 - 1 = k by omega, hk] at hR
        simp only at hR
        rw [if_neg ha, hx] at hR
        rw [fin_lo hi hx, fin_lo hi hx]
        cases hn : nextA x t.due one with
        | none => rw [(next_gone hax (by omega) h2 h3 hn).1]; rfl
        | some n1 =>
          rw [fin_lo hi hx, hn] at hR
          simp only [Option.map_some, Option.isSome_some, if_true] at hR ⊢
          by_cases hc : two < n1
          · rw [if_pos hc, (next_late hax (by omega) h2 hn hc).1]; rfl
          · rw [if_neg hc, fin_lo (t := ⟨t.id, n1⟩) hi hR, (next_near (two := two) hax hn).1]
      · rw [fin_hi hi, fin_hi hi]
theorem twice_R (g : GoodA now ts rs) (h1 : now ≤ one) (h2 : one ≤ two) (h3 : two ≤ 1125899906842624) (v : Int) (hv1 : 1 ≤ v) (hv2 : v ≤ 16) :
    getK Alm.vcpu (ringsV two (ringsV one ts rs).1 (ringsV one ts rs).2.1).2.1 v = getK Alm.vcpu (ringsV two ts rs).2.1 v := by
  have g1 := after_good g h1 (Int.le_trans h2 h3)
  have hR := after_R g h1 (Int.le_trans h2 h3) v hv1 hv2
  rw [after_R g1 h2 h3 v hv1 hv2, after_R g (Int.le_trans h1 h2) h3 v hv1 hv2, after_T g h1 (Int.le_trans h2 h3)]
  have hl := g.lk v hv1 hv2
  cases hk : getK Tim.id ts (v - 1) with
  | none => rfl
  | some t =>
    have hm := getK_mem hk
    have hti := g.gw.tm t hm.1
    have hv : v = t.id + 1 := by omega
    have hi : t.id < 16 := by omega
    rw [hk] at hl hR
    obtain ⟨x, hx⟩ := Option.isSome_iff_exists.1 hl.symm
    have hax := g.al x (getK_mem hx).1
    subst hv
    simp only at hR ⊢
    rw [hx] at hR ⊢
    by_cases ha : one < t.due
    · rw [if_pos ha] at hR ⊢
      simp only
      rw [hR, fin_lo hi hR, fin_lo hi hx]
    · rw [if_neg ha, fin_lo hi hx] at hR
      rw [if_neg ha, if_neg (show ¬ two < t.due by omega), fin_lo hi hx, fin_lo hi hx]
      cases hn : nextA x t.due one with
      | none => rw [(next_gone hax (by omega) h2 h3 hn).1]; rfl
      | some n1 =>
        rw [hn] at hR
        simp only [Option.map_some, Option.isSome_some, if_true] at hR ⊢
        rw [hR]
        by_cases hc : two < n1
        · rw [if_pos hc, (next_late hax (by omega) h2 hn hc).1]; rfl
        · rw [if_neg hc, fin_lo (t := ⟨t.id, n1⟩) hi hR, (next_near (two := two) hax hn).1]
/-- By way of another time: the same timers, the same rows. -/
theorem twice_same (g : GoodA now ts rs) (h1 : now ≤ one) (h2 : one ≤ two) (h3 : two ≤ 1125899906842624) :
    (ringsV two (ringsV one ts rs).1 (ringsV one ts rs).2.1).1 = (ringsV two ts rs).1 ∧ (ringsV two (ringsV one ts rs).1 (ringsV one ts rs).2.1).2.1 = (ringsV two ts rs).2.1 := by
  have g1 := after_good g h1 (Int.le_trans h2 h3)
  have ga := after_good g1 h2 h3
  have gb := after_good g (Int.le_trans h1 h2) h3
  refine ⟨ris_same ga.gw.rs gb.gw.rs fun k => twice_T g h1 h2 h3 k, ris_same ga.rr gb.rr fun k => ?_⟩
  by_cases hk : 1 ≤ k ∧ k ≤ 16
  · exact twice_R g h1 h2 h3 k hk.1 hk.2
  · rw [getK_none.2 fun x hx e => hk (by rw [← e]; exact alm_id (ga.al x hx)), getK_none.2 fun x hx e => hk (by rw [← e]; exact alm_id (gb.al x hx))]
/-- How often one has rung: those that were missed counted. -/
def wgt (v p : Int) (r : Rng) : Int := if r.vcpu = v ∧ r.port = p then 1 + r.missed else 0
def cntR (l : List Rng) (v p : Int) : Int := (l.map (wgt v p)).sum
theorem cnt_app (l l' : List Rng) (v p : Int) : cntR (l ++ l') v p = cntR l v p + cntR l' v p := by simp [cntR]
theorem sum_none {α : Type} (F : α → Int) : ∀ l : List α, (∀ y ∈ l, F y = 0) → (l.map F).sum = 0
  | [], _ => rfl
  | y :: l, h => by
    have := sum_none F l fun z hz => h z (by simp [hz])
    simp only [List.map_cons, List.sum_cons, h y (by simp), this]; rfl
theorem sum_one {α : Type} {f : α → Int} {l : List α} (hr : Ris f l) (k : Int) (F : α → Int) (h : ∀ y ∈ l, f y ≠ k → F y = 0) : (l.map F).sum = match getK f l k with
    | some y => F y
    | none => 0 := by
  induction l with
  | nil => rfl
  | cons y l ih =>
    obtain ⟨h1, h2⟩ := List.pairwise_cons.1 hr
    simp only [List.map_cons, List.sum_cons]
    by_cases hk : f y = k
    · have hs := sum_none F l fun z hz => h z (by simp [hz]) (by have := h1 z hz; omega)
      have hg : getK f (y :: l) k = some y := (getK_iff hr).2 ⟨by simp, hk⟩
      rw [hs, hg]; simp
    · have hg : getK f (y :: l) k = getK f l k := by simp [getK, hk]
      rw [h y (by simp) hk, hg, ih h2 fun z hz => h z (by simp [hz])]; simp
theorem perm_sum {l l' : List Int} (h : l.Perm l') : l.sum = l'.sum := by
  induction h with
  | nil => rfl
  | cons x _ ih => simp only [List.sum_cons, ih]
  | swap x y l => simp only [List.sum_cons]; omega
  | trans _ _ h1 h2 => rw [h1, h2]
theorem cnt_is (g : GoodA now ts rs) (h1 : now ≤ to) (h2 : to ≤ 1125899906842624) (v p : Int) : cntR (ringsV to ts rs).2.2 v p = match getK Tim.id ts (if p = 0 then v + 15 else v - 1) with
    | some t => if to < t.due then 0 else wgt v p (ringOf to rs t)
    | none => 0 := by
  rw [rings_are g h1 h2, cntR, List.map_map, perm_sum ((perm_sort (duL ts to)).map _)]
  have hr : Ris Tim.id (duL ts to) := by rw [duL_filter]; exact g.gw.rs.filter _
  rw [sum_one hr (if p = 0 then v + 15 else v - 1)]
  · cases hk : getK Tim.id ts (if p = 0 then v + 15 else v - 1) with
    | none => rw [getK_none.2 fun y hy => getK_none.1 hk y (mem_duL.1 hy).1]
    | some t =>
      have hm := (getK_iff g.gw.rs).1 hk
      simp only
      by_cases hd : to < t.due
      · rw [if_pos hd, getK_none.2]
        intro y hy e
        have hy2 := mem_duL.1 hy
        have := g.gw.rs.inj hy2.1 hm.1 (by rw [e, hm.2])
        subst this; omega
      · rw [if_neg hd, (getK_iff hr).2 ⟨mem_duL.2 ⟨hm.1, by omega⟩, hm.2⟩]; rfl
  · intro y hy hne
    have hy2 := mem_duL.1 hy
    have hti := g.gw.tm y hy2.1
    show wgt v p (ringOf to rs y) = 0
    unfold wgt
    rw [if_neg]
    rintro ⟨e1, e2⟩
    by_cases hi : y.id < 16
    · have hl := g.lk (y.id + 1) (by omega) (by omega)
      rw [show y.id + 1 - 1 = y.id by omega, (getK_iff g.gw.rs).2 ⟨hy2.1, rfl⟩] at hl
      obtain ⟨x, hx⟩ := Option.isSome_iff_exists.1 hl.symm
      have hp := alm_every (g.al x (getK_mem hx).1)
      rw [ring_lo hi hx] at e1 e2
      simp only at e1 e2
      rw [if_neg (by omega)] at hne
      omega
    · rw [ring_sl hi] at e1 e2
      simp only at e1 e2
      rw [if_pos e2.symm] at hne
      omega
theorem ring_rows {rs2 : List Alm} (h : t.id < 16 → getK Alm.vcpu rs2 (t.id + 1) = getK Alm.vcpu rs (t.id + 1)) : ringOf to rs2 t = ringOf to rs t := by
  by_cases hi : t.id < 16
  · simp only [ringOf, if_pos hi, h hi]
  · rw [ring_sl hi, ring_sl hi]
/-- By way of another time: each has rung as often. -/
theorem twice_cnt (g : GoodA now ts rs) (h1 : now ≤ one) (h2 : one ≤ two) (h3 : two ≤ 1125899906842624) (v p : Int) :
    cntR ((ringsV one ts rs).2.2 ++ (ringsV two (ringsV one ts rs).1 (ringsV one ts rs).2.1).2.2) v p = cntR (ringsV two ts rs).2.2 v p := by
  have g1 := after_good g h1 (Int.le_trans h2 h3)
  rw [cnt_app, cnt_is g h1 (Int.le_trans h2 h3), cnt_is g1 h2 h3, cnt_is g (Int.le_trans h1 h2) h3, after_T g h1 (Int.le_trans h2 h3)]
  generalize hid : (if p = 0 then v + 15 else v - 1) = k
  cases hk : getK Tim.id ts k with
  | none => rfl
  | some t =>
    have hm := getK_mem hk
    have hti := g.gw.tm t hm.1
    simp only
    by_cases hi : t.id < 16
    · have hl := g.lk (t.id + 1) (by omega) (by omega)
      rw [show t.id + 1 - 1 = k by omega, hk] at hl
      obtain ⟨x, hx⟩ := Option.isSome_iff_exists.1 hl.symm
      have hax := g.al x (getK_mem hx).1
      have hR := after_R g h1 (Int.le_trans h2 h3) (t.id + 1) (by omega) (by omega)
      rw [show t.id + 1 - 1 = k by omega, hk] at hR
      simp only at hR
      by_cases ha : one < t.due
      · rw [if_pos ha] at hR
        rw [if_pos ha, if_pos ha]
        simp only
        rw [ring_rows (rs2 := (ringsV one ts rs).2.1) fun _ => hR]
        omega
      · rw [if_neg ha, fin_lo hi hx, hx] at hR
        rw [if_neg ha, if_neg ha, if_neg (show ¬ two < t.due by omega), fin_lo hi hx, ring_lo hi hx, ring_lo hi hx]
        cases hn : nextA x t.due one with
        | none =>
          rw [(next_gone hax (by omega) h2 h3 hn).2]
          simp
        | some n1 =>
          rw [hn] at hR
          simp only [Option.map_some, Option.isSome_some, if_true] at hR ⊢
          by_cases hc : two < n1
          · rw [if_pos hc, (next_late hax (by omega) h2 hn hc).2]; simp
          · rw [if_neg hc, ring_lo (t := ⟨t.id, n1⟩) hi hR, (next_near (two := two) hax hn).2]
            unfold wgt
            simp only
            by_cases hq : t.id + 1 = v ∧ x.port = p
            · rw [if_pos hq, if_pos hq, if_pos hq]; omega
            · rw [if_neg hq, if_neg hq, if_neg hq]; rfl
    · by_cases ha : one < t.due
      · rw [if_pos ha, if_pos ha]
        simp only
        rw [ring_sl hi, ring_sl hi]
        omega
      · rw [if_neg ha, if_neg ha, if_neg (show ¬ two < t.due by omega), fin_hi hi, ring_sl hi, ring_sl hi]
        simp
end
end Go.Proofs.Ytdbamgbgnpadjaa

/-! The walker: maps of one's own whose keys are asked (arrays, structs). -/
namespace Go.Proofs.Ytdbamgbgnpadjaa
open Go Go.RowKit

structure MapKs {K β : Type} (G : K → Prop) (κ : K → Value) (enc : β → Value) (es : Array MapEntry) (D : List (K × β)) : Prop where
  good : ∀ p ∈ D, G p.1
  keys : es.toList.map (fun e => (e.key, e.val)) = D.map fun p => (κ p.1, enc p.2)
theorem MapKs.nil {K β : Type} {G : K → Prop} {κ : K → Value} {enc : β → Value} : MapKs G κ enc #[] ([] : List (K × β)) := ⟨fun _ h => (by cases h), rfl⟩
theorem MapKs.size {K β : Type} {G : K → Prop} {κ : K → Value} {enc : β → Value} {es : Array MapEntry} {D : List (K × β)} (h : MapKs G κ enc es D) : es.size = D.length := by
  have := congrArg List.length h.keys
  simpa using this
section
variable {K β : Type} [DecidableEq K]
def kget : List (K × β) → K → Option β
  | [], _ => none
  | p :: D, k => if p.1 = k then some p.2 else kget D k
def kupd : List (K × β) → K → β → List (K × β)
  | [], k, v => [(k, v)]
  | p :: D, k, v => if p.1 = k then (k, v) :: D else p :: kupd D k v
/-- What is known of a type of keys. -/
structure KeyOk (P : Program) (kt : TypeId) (G : K → Prop) (κ : K → Value) : Prop where
  chk : ∀ (e : Bool) (k : K) (w : World), G k → (Instr.checkKey e 10000 kt (κ k)).run P w = .ok () w
  eq : ∀ (a b : K) (w : World), G a → G b → (Op.equal kt (κ a) (κ b)).run P w = .ok (decide (a = b)) w
  now : ∃ d, P.underlying kt = some d ∧ ∀ a b, Instr.sameNow d (κ a) (κ b) = none
  stays : ∀ (k : K) (w : World), G k → (Instr.keyThatStays (κ k) (κ k)).run P w = .ok (κ k) w
variable {P : Program} {w : World} {kt : TypeId} {G : K → Prop} {κ : K → Value} {enc : β → Value} {es : Array MapEntry} {D : List (K × β)} {k : K} {v : β} {ck : Nat}
theorem kupd_good : ∀ {D : List (K × β)}, (∀ p ∈ D, G p.1) → G k → ∀ p ∈ kupd D k v, G p.1
  | [], _, hk, p, hp => by simp only [kupd, List.mem_singleton] at hp; subst hp; exact hk
  | q :: D, h, hk, p, hp => by
    simp only [kupd] at hp
    split at hp
    · rcases List.mem_cons.1 hp with e | e
      · subst e; exact hk
      · exact h p (by simp [e])
    · rcases List.mem_cons.1 hp with e | e
      · subst e; exact h p (by simp)
      · exact kupd_good (fun r hr => h r (by simp [hr])) hk p e
theorem asking_is (hK : KeyOk P kt G κ) (hk0 : G k) (w : World) : ∀ (l : List MapEntry) (D : List (K × β)) (i : Nat), (∀ p ∈ D, G p.1) → l.map (fun e => (e.key, e.val)) = D.map (fun p => (κ p.1, enc p.2)) →
    ((Instr.findAsking kt (κ k) l i).run P w = .ok none w ∧ kget D k = none ∧ ∀ u, kupd D k u = D ++ [(k, u)]) ∨
    ∃ j b, (Instr.findAsking kt (κ k) l i).run P w = .ok (some (i + j, enc b)) w ∧ kget D k = some b ∧ j < D.length ∧ (D[j]?).map (·.1) = some k ∧ ∀ u, kupd D k u = D.set j (k, u)
  | [], [], i, _, _ => .inl ⟨by simp [Instr.findAsking], rfl, fun _ => rfl⟩
  | [], _ :: _, _, _, h => by simp at h
  | _ :: _, [], _, _, h => by simp at h
  | e :: l, p :: D, i, hG, h => by
    have hp0 : G p.1 := hG p (by simp)
    have heq := hK.eq k p.1 w hk0 hp0
    simp only [List.map_cons, List.cons.injEq, Prod.mk.injEq] at h
    obtain ⟨⟨h1, h2⟩, h3⟩ := h
    by_cases hk : k = p.1
    · subst hk
      right
      refine ⟨0, p.2, ?_, by simp [kget], by simp, by simp, fun u => by simp [kupd]⟩
      simp [Instr.findAsking, h1, h2, heq]
    · have hk' : ¬ p.1 = k := fun e => hk e.symm
      rcases asking_is hK hk0 w l D (i + 1) (fun q hq => hG q (by simp [hq])) h3 with ⟨a, b, c⟩ | ⟨j, b, a, c, d, e1, f⟩
      · left
        refine ⟨?_, by simp [kget, hk', b], fun u => by simp [kupd, hk', c u]⟩
        simp [Instr.findAsking, h1, heq, hk, a]
      · right
        refine ⟨j + 1, b, ?_, by simp [kget, hk', c], by simp; omega, by simpa using e1, fun u => by simp [kupd, hk', f u]⟩
        simp only [Instr.findAsking, h1]
        simp [heq, hk, a]
        omega
theorem findKey_is (hK : KeyOk P kt G κ) (hk0 : G k) (w : World) (h : MapKs G κ enc es D) :
    ((Instr.findKey kt (κ k) es.toList).run P w = .ok none w ∧ kget D k = none ∧ ∀ u, kupd D k u = D ++ [(k, u)]) ∨
    ∃ j b, (Instr.findKey kt (κ k) es.toList).run P w = .ok (some (j, enc b)) w ∧ kget D k = some b ∧ j < D.length ∧ (D[j]?).map (·.1) = some k ∧ ∀ u, kupd D k u = D.set j (k, u) := by
  obtain ⟨d, hd, hn⟩ := hK.now
  have e : (Instr.findKey kt (κ k) es.toList).run P w = (Instr.findAsking kt (κ k) es.toList 0).run P w := by
    cases hl : es.toList with
    | nil => simp [Instr.findKey, run_underlying hd, Instr.findNow, Instr.findAsking]
    | cons x l =>
      have hk := h.keys
      rw [hl] at hk
      cases D with
      | nil => simp at hk
      | cons p D =>
        simp only [List.map_cons, List.cons.injEq, Prod.mk.injEq] at hk
        simp [Instr.findKey, run_underlying hd, Instr.findNow, hk.1.1, hn]
  rw [e]
  have := asking_is (k := k) hK hk0 w es.toList D 0 h.good h.keys
  simpa using this
variable {t et : TypeId} {r : Nat}
theorem run_lookupK (hK : KeyOk P kt G κ) (hk0 : G k) (ht : P.underlying t = some (.map kt et)) {i : TypeInfo} {z : Value} (hi : P.info? et = some i) (hz : i.zero = some z) (hb : w.heap[r]? = some (.map es ck)) (hM : MapKs G κ enc es D) (c : Bool) :
    (Instr.lookup t (.map (some r)) (κ k) c).run P w = .ok (if c then .tuple #[((kget D k).map enc).getD z, .bool (kget D k).isSome] else ((kget D k).map enc).getD z) w := by
  have hck := fun e => hK.chk e k w hk0
  rcases findKey_is hK hk0 w hM (k := k) with ⟨hf, b, _⟩ | ⟨j, b, hf, c', _, _, _⟩
  · cases c <;> simp [Instr.lookup, run_underlying ht, MapKept.run_getObj_map hb, hck, hf, zeroValue, typeInfo, hi, hz, b]
  · cases c <;> simp [Instr.lookup, run_underlying ht, MapKept.run_getObj_map hb, hck, hf, c']
end
section
variable {E : Env} {k : List Fr} {l : Sl} {L : List Ob} {all os : List Oper} {o : Oper} {i : Nat} {K β : Type} [DecidableEq K] {G : K → Prop} {κ : K → Value} {enc : β → Value} {es : Array MapEntry} {ck : Nat} {D : List (K × β)}
/-- A map's type, asked by the kernel. -/
def mapK (P : Program) (t kt : TypeId) (z : Value) : Prop := ∃ et, P.underlying t = some (.map kt et) ∧ (P.info? et).bind (fun i => i.zero) = some z
theorem ops_lookupK (j : Nat) {t kt : TypeId} {x y : Operand} {c : Bool} {g : Nat} {kk : K} (z u : Value) (hK : KeyOk E.P kt G κ) (hk0 : G kk) (ho : o.op = .lookup t x y c) (hw : wantL all l o = some true) (hd : (okD E.n o.dst && knownO l o) = true)
    (hx : look l x = .map (some g)) (hy : look l y = κ kk) (hT : mapK E.P t kt z) (hj : L[j]? = some (g, .map es ck)) (hM : MapKs G κ enc es D) (hu : (if c then .tuple #[((kget D kk).map enc).getD z, .bool (kget D kk).isSome] else ((kget D kk).map enc).getD z) = u)
    (h : Ops E k all os (i + 1) (putL o.dst u l) L) : Ops E k all (o :: os) i l L := by
  obtain ⟨et, h1, h34⟩ := hT
  obtain ⟨inf, h3, h4⟩ := Option.bind_eq_some_iff.1 h34
  refine ⟨fun a w ha hs => ?_⟩
  simp only [Bool.and_eq_true] at hd
  have hg := wantL_spec ha hw
  refine wpListIn_step fun K hK2 => ?_
  rw [if_pos hg]
  refine ⟨fun _ _ => trivial, ?_⟩
  rw [Oper.semAt_eq _ _ _ (fun c e => by rw [ho] at e; cases e), look_exec ha hd.2]
  have hr := run_lookupK hK hk0 h1 h3 h4 (hs.row j hj) hM (k := kk) c
  have e : (execOp (look l) o).run E.P w = .ok (.value u) w := by
    simp [execOp, ho, hx, hy, hr, hu]
  rw [e]
  exact hK2 _ _ (h.out _ _ (ha.put hd.1 _) hs)
end
end Go.Proofs.Ytdbamgbgnpadjaa

/-! Alarms: the rings' order; plain. -/
namespace Go.Proofs.Ytdbamgbgnpadjaa
open Go Go.RowKit

section
variable {now k v at_ to nx : Int} {ts : List Tim} {rs : List Alm} {x y : Alm} {t : Tim} {i j : Nat} {r r' : Rng}
theorem ring_at (g : GoodA now ts rs) (h1 : now ≤ to) (h2 : to ≤ 1125899906842624) (hr : (ringsV to ts rs).2.2[j]? = some r) : ∃ t, (sortT (duL ts to))[j]? = some t ∧ r = ringOf to rs t := by
  rw [rings_are g h1 h2, List.getElem?_map] at hr
  cases e : (sortT (duL ts to))[j]? with
  | none => rw [e] at hr; cases hr
  | some t => rw [e] at hr; cases hr; exact ⟨t, rfl, rfl⟩
/-- A ring, and the timer it comes of. -/
theorem ring_is (g : GoodA now ts rs) (hx : (sortT (duL ts to))[j]? = some t) : (now < t.due ∧ t.due ≤ to ∧ t ∈ ts ∧ 0 ≤ t.id ∧ t.id < 32) ∧ (ringOf to rs t).at_ = t.due ∧
    ((t.id < 16 ∧ ∃ x, getK Alm.vcpu rs (t.id + 1) = some x ∧ almB x = true ∧ ringOf to rs t = ⟨t.id + 1, x.port, t.due, missA x t.due to⟩) ∨ (¬ t.id < 16 ∧ ringOf to rs t = ⟨t.id - 16 + 1, 0, t.due, 0⟩)) := by
  have hm := fired_tm g.gw (List.mem_of_getElem? hx)
  refine ⟨⟨hm.2.2.1, hm.2.2.2.1, hm.2.2.2.2, hm.1, hm.2.1⟩, ?_⟩
  by_cases hi : t.id < 16
  · have hl := g.lk (t.id + 1) (by omega) (by omega)
    rw [show t.id + 1 - 1 = t.id by omega, (getK_iff g.gw.rs).2 ⟨hm.2.2.2.2, rfl⟩] at hl
    obtain ⟨x, hx⟩ := Option.isSome_iff_exists.1 hl.symm
    rw [ring_lo hi hx]
    exact ⟨rfl, .inl ⟨hi, x, hx, g.al x (getK_mem hx).1, rfl⟩⟩
  · rw [ring_sl hi]
    exact ⟨rfl, .inr ⟨hi, rfl⟩⟩
/-- Whose rings have been met. -/
def keyR (r : Rng) : Int × Int := (r.vcpu, min r.port 1)
def metL (l : List Rng) : List ((Int × Int) × Bool) := l.foldl (fun D r => kupd D (keyR r) true) []
theorem kget_upd {K β : Type} [DecidableEq K] {k k' : K} {b : β} : ∀ {D : List (K × β)}, k ≠ k' → kget (kupd D k' b) k = kget D k
  | [], h => by
    have h3 : ¬ k' = k := fun e => h e.symm
    simp [kupd, kget, h3]
  | p :: D, h => by
    simp only [kupd]
    split
    · rename_i e
      have h2 : ¬ p.1 = k := fun e2 => h (by rw [← e2, e])
      have h3 : ¬ k' = k := fun e => h e.symm
      simp [kget, h3, h2]
    · simp only [kget]
      split
      · rfl
      · exact kget_upd h
theorem ring_bnd (g : GoodA now ts rs) (h1 : now ≤ to) (h2 : to ≤ 1125899906842624) (hr : (ringsV to ts rs).2.2[j]? = some r) : now < r.at_ ∧ r.at_ ≤ to ∧ 1 ≤ r.vcpu ∧ r.vcpu ≤ 16 ∧ 0 ≤ r.port ∧ r.port ≤ 32 := by
  obtain ⟨t, ht, rfl⟩ := ring_at g h1 h2 hr
  have hm := ring_is g ht
  rw [hm.2.1]
  rcases hm.2.2 with ⟨hi, x, hx, hax, e⟩ | ⟨hi, e⟩
  · have := alm_every hax; rw [e]; simp only; omega
  · rw [e]; simp only; omega
def spV (s : Int) : Int := if s < 0 then 0 else Int.tmod s 1099511627776
theorem spV_neg {s : Int} (h : s < 0) : spV s = 0 := if_pos h
theorem spV_pos {s : Int} (h : ¬ s < 0) : spV s = Int.tmod s 1099511627776 := if_neg h
theorem spV_bnd (s : Int) : 0 ≤ spV s ∧ spV s < 1099511627776 := by
  by_cases h : s < 0
  · rw [spV_neg h]; omega
  · rw [spV_pos h, Int.tmod_eq_emod_of_nonneg (by omega)]; omega
theorem spV_if (s : Int) : Int.tmod (if (s : Int) < (0 : Int) then 0 else s) 1099511627776 = spV s := by
  unfold spV; split <;> rfl
def gaX (o : Option (Alm × Int)) : Alm := (o.map (·.1)).getD ⟨0, 0, 0⟩
def gaD (o : Option (Alm × Int)) : Int := (o.map (·.2)).getD 0
end
end Go.Proofs.Ytdbamgbgnpadjaa

/-! Alarms: what the laws are handed; plain. -/
namespace Go.Proofs.Ytdbamgbgnpadjaa
open Go Go.RowKit

/-- Alarms in a row of such. -/
structure AlsA where
  now : Int
  p : Option Addr
  n : Nat
  cap : Nat
  ts : List Tim
  pa : Option Addr
  na : Nat
  ca : Nat
  rs : List Alm
def AlsA.enc (x : AlsA) : List Value := [.int .i64 x.now, .slice x.p x.n x.cap, .slice x.pa x.na x.ca]
instance : Enc AlsA := ⟨AlsA.enc, 3, fun _ => rfl, fun x v h => by simp [AlsA.enc] at h; rcases h with rfl | rfl | rfl <;> rfl, by decide⟩
structure AlsA.Reads (w : World) (x : AlsA) : Prop where
  ht : Sv w x.p x.ts
  hn : x.n = x.ts.length
  hc : x.n ≤ x.cap
  hb : x.cap ≤ 9223372036854775807
  ha : Sv w x.pa x.rs
  hna : x.na = x.rs.length
  hca : x.na ≤ x.ca
  hba : x.ca ≤ 9223372036854775807
section
variable {now k v : Int} {ts : List Tim} {rs : List Alm} {x : Alm} {t : Tim}
end
end Go.Proofs.Ytdbamgbgnpadjaa

/-! Two whole numbers as a key. -/
namespace Go.Proofs.Ytdbamgbgnpadjaa
open Go Go.RowKit Go.ChangeShapes Go.WideShapes

/-- Two whole numbers as a map's key. -/
def twoK (p : Int × Int) : Value := .agg #[.int .i64 p.1, .int .i64 p.2]
def twoG (p : Int × Int) : Prop := (Lit.int .i64 p.1).wf = true ∧ (Lit.int .i64 p.2).wf = true
theorem two_good {a b : Int} (h1 : 0 ≤ a) (h2 : a ≤ 1000) (h3 : 0 ≤ b) (h4 : b ≤ 1000) : twoG (a, b) := by
  have e1 : IntKind.i64.min = -9223372036854775808 := by kernel_rfl
  have e2 : IntKind.i64.max = 9223372036854775807 := by kernel_rfl
  have e : ∀ n : Int, 0 ≤ n → n ≤ 1000 → (Lit.int .i64 n).wf = true := fun n hn hm => by
    simp only [Lit.wf, e1, e2, Bool.and_eq_true, decide_eq_true_eq]
    omega
  exact ⟨e a h1 h2, e b h3 h4⟩
theorem two_laid : laidOutB Try.prog = true := by kernel_rfl
theorem two_type : Try.prog.keyTypeAt 2 39 = true := by kernel_rfl
theorem two_law : WideMaps.KeyLaw Try.prog 39 := deep_law_laid two_laid (m := 2) (by omega) (of_decide_eq_true (by kernel_rfl)) two_type (by kernel_rfl)
theorem two_lits (d : Nat) (p : Int × Int) (h : twoG p) : Try.prog.keyLits (d + 1 + 1) 39 [.int .i64 p.1, .int .i64 p.2] = some [.int .i64 p.1, .int .i64 p.2] := by
  have e : ∀ n, (Lit.int .i64 n).wf = true → Try.prog.keyLits (d + 1) 3 [.int .i64 n] = some [.int .i64 n] := fun n hn => by
    unfold Program.keyLits
    simp [Try.underlying3, hn]
  have c2 : Try.prog.cellsOf 39 = 2 := by kernel_rfl
  have c1 : Try.prog.cellsOf 3 = 1 := by kernel_rfl
  unfold Program.keyLits
  simp [Try.underlying39, c2, c1, List.range_succ, e _ h.1, e _ h.2]
theorem two_key (p : Int × Int) (h : twoG p) : ∃ l, keyOf Try.prog 39 (twoK p) = some l := by
  have hs : Try.prog.types.size + 1 = (Try.prog.types.size - 1) + 1 + 1 := by
    have : 1 ≤ Try.prog.types.size := of_decide_eq_true (by kernel_rfl)
    omega
  have hf : (Try.prog.keyType 39 && (twoK p).formed Try.prog 39) = true := by kernel_rfl
  refine ⟨.string (keyBytes [.int .i64 p.1, .int .i64 p.2]), ?_⟩
  unfold keyOf
  rw [Try.underlying39]
  simp only [hf, if_true]
  rw [hs]
  have := two_lits (Try.prog.types.size - 1) p h
  simp only [twoK, Value.cells]
  rw [this]; rfl
theorem twoK_inj {a b : Int × Int} (h : twoK a = twoK b) : a = b := by
  simp only [twoK, Value.agg.injEq] at h
  have h2 := congrArg Array.toList h
  simp at h2
  exact Prod.ext h2.1 h2.2
theorem two_ok : KeyOk Try.prog 39 twoG twoK where
  chk := fun e k w hk => by obtain ⟨l, hl⟩ := two_key k hk; exact two_law.check w e hl
  eq := fun a b w ha hb => by
    obtain ⟨la, ea⟩ := two_key a ha
    obtain ⟨lb, eb⟩ := two_key b hb
    obtain ⟨r, h1, h2⟩ := run_equal_deep w (m := 2) (by omega) two_type (by kernel_rfl) ea eb
    have hr : r = decide (a = b) := by
      by_cases hab : a = b
      · have e2 : la = lb := by rw [hab] at ea; rw [ea] at eb; exact Option.some.inj eb
        rw [h2.2 e2, decide_eq_true hab]
      · rw [decide_eq_false hab]
        cases r with
        | false => rfl
        | true => exact absurd (twoK_inj (two_law.inj ea (by rw [eb, ← h2.1 rfl]))) hab
    rw [h1, hr]
  now := ⟨_, Try.underlying39, fun _ _ => rfl⟩
  stays := fun k w hk => by obtain ⟨l, hl⟩ := two_key k hk; exact two_law.stays w hl
end Go.Proofs.Ytdbamgbgnpadjaa

/-! The walker: maps whose keys are asked: entries (m[k] += v), and ranges over a map. -/
namespace Go.Proofs.Ytdbamgbgnpadjaa
open Go Go.RowKit

structure MapKT {K β : Type} (G : K → Prop) (κ : K → Value) (enc : β → Value) (es : Array MapEntry) (ck : Nat) (D : List (K × β)) : Prop extends MapKs G κ enc es D where
  born : ∀ x ∈ es.toList, x.born < ck
  nodup : (es.toList.map (·.born)).Nodup
theorem MapKT.nil {K β : Type} {G : K → Prop} {κ : K → Value} {enc : β → Value} : MapKT G κ enc #[] 0 ([] : List (K × β)) := ⟨MapKs.nil, fun _ h => (by cases h), List.nodup_nil⟩
/-- The entry of a key, by its stamp. -/
def Born {K : Type} (κ : K → Value) (es : Array MapEntry) (k : K) (s : Nat) : Prop := ∃ (i : Nat) (e : MapEntry), es[i]? = some e ∧ e.born = s ∧ e.key = κ k
/-- The entry that a step over a map has handed out. -/
def Cur {K β : Type} (κ : K → Value) (enc : β → Value) (es : Array MapEntry) (seen : Array Nat) (p : K × β) : Prop := ∃ (e : MapEntry) (s0 : Array Nat), e ∈ es.toList ∧ seen = Array.push s0 e.born ∧ e.key = κ p.1 ∧ e.val = enc p.2
theorem MapKs.entry {K β : Type} {G : K → Prop} {κ : K → Value} {enc : β → Value} {es : Array MapEntry} {D : List (K × β)} (h : MapKs G κ enc es D) {e : MapEntry} (he : e ∈ es.toList) : ∃ p ∈ D, e.key = κ p.1 ∧ e.val = enc p.2 := by
  have hm : (e.key, e.val) ∈ es.toList.map (fun e => (e.key, e.val)) := List.mem_map.2 ⟨e, he, rfl⟩
  rw [h.keys] at hm
  obtain ⟨p, hp, hq⟩ := List.mem_map.1 hm
  have h1 : κ p.1 = e.key := congrArg Prod.fst hq
  have h2 : enc p.2 = e.val := congrArg Prod.snd hq
  exact ⟨p, hp, h1.symm, h2.symm⟩
theorem key_at {K β : Type} {G : K → Prop} {κ : K → Value} {enc : β → Value} {es : Array MapEntry} {D : List (K × β)} (hM : MapKs G κ enc es D) {i : Nat} {e : MapEntry} (he : es[i]? = some e) : ∃ p, D[i]? = some p ∧ e.key = κ p.1 ∧ e.val = enc p.2 := by
  have h1 := congrArg (fun z => z[i]?) hM.keys
  simp only [List.getElem?_map, Array.getElem?_toList, he, Option.map_some] at h1
  rcases hD : D[i]? with _ | p
  · rw [hD] at h1; cases h1
  · rw [hD] at h1
    simp only [Option.map_some, Option.some.injEq, Prod.mk.injEq] at h1
    exact ⟨p, rfl, h1.1, h1.2⟩
theorem nodup_push {l : List MapEntry} {e : MapEntry} {ck : Nat} (h : (l.map (·.born)).Nodup) (hb : ∀ x ∈ l, x.born < ck) (he : e.born = ck) : ((l ++ [e]).map (·.born)).Nodup := by
  rw [List.map_append, List.nodup_append]
  refine ⟨h, by simp, fun a ha b hb2 e2 => ?_⟩
  obtain ⟨x, hx, rfl⟩ := List.mem_map.1 ha
  simp only [List.map_cons, List.map_nil, List.mem_singleton] at hb2
  have := hb x hx
  omega
theorem born_modify (es : Array MapEntry) (j : Nat) (f : MapEntry → MapEntry) (hf : ∀ e, (f e).born = e.born) : (es.modify j f).toList.map (·.born) = es.toList.map (·.born) := by
  apply List.ext_getElem?
  intro i
  rw [List.getElem?_map, List.getElem?_map, Array.getElem?_toList, Array.getElem?_toList, Array.getElem?_modify]
  split
  · cases es[i]? <;> simp [hf]
  · rfl
theorem born_lt_modify {es : Array MapEntry} {j ck : Nat} {f : MapEntry → MapEntry} (hf : ∀ e, (f e).born = e.born) (h : ∀ x ∈ es.toList, x.born < ck) : ∀ x ∈ (es.modify j f).toList, x.born < ck := fun x hx => by
  have : x.born ∈ (es.modify j f).toList.map (·.born) := List.mem_map.2 ⟨x, hx, rfl⟩
  rw [born_modify es j f hf] at this
  obtain ⟨y, hy, e⟩ := List.mem_map.1 this
  rw [← e]; exact h y hy

section
variable {K β : Type} [DecidableEq K] {P : Program} {w : World} {kt : TypeId} {G : K → Prop} {κ : K → Value} {enc : β → Value} {es : Array MapEntry} {D : List (K × β)} {k : K} {v : β} {ck : Nat}
theorem kupd_kupd {a b : β} : ∀ {D : List (K × β)}, kupd (kupd D k a) k b = kupd D k b
  | [] => by simp [kupd]
  | p :: D => by
    simp only [kupd]
    split
    · simp [kupd]
    · rename_i h
      simp only [kupd, if_neg h]
      rw [kupd_kupd]
theorem kget_kupd {a : β} : ∀ {D : List (K × β)}, kget (kupd D k a) k = some a
  | [] => by simp [kupd, kget]
  | p :: D => by
    simp only [kupd]
    split
    · simp [kget]
    · rename_i h
      simp only [kget, if_neg h]
      exact kget_kupd
theorem look_ent {a : β} {z : Value} : ((kget (kupd D k a) k).map enc).getD z = enc a := by rw [kget_kupd]; rfl
theorem kupd_same {a : β} : ∀ {D : List (K × β)}, kget D k = some a → kupd D k a = D
  | [], h => by cases h
  | p :: D, h => by
    simp only [kget] at h
    simp only [kupd]
    split
    · rename_i e
      rw [if_pos e] at h
      cases h
      rw [← e]
    · rename_i e
      rw [if_neg e] at h
      rw [kupd_same h]
variable {t et : TypeId} {r : Nat}
theorem run_entryK (hK : KeyOk P kt G κ) (hk0 : G k) (ht : P.underlying t = some (.map kt et)) {i : TypeInfo} {z : β} (hi : P.info? et = some i) (hz : i.zero = some (enc z)) (hb : w.heap[r]? = some (.map es ck)) (hM : MapKT G κ enc es ck D) :
    ∃ es' ck' s, (Instr.mapEntry t (.map (some r)) (κ k)).run P w = .ok (.tuple #[enc ((kget D k).getD z), .int .i64 (s : Nat)]) { w with heap := w.heap.setIfInBounds r (.map es' ck') } ∧ MapKT G κ enc es' ck' (kupd D k ((kget D k).getD z)) ∧ Born κ es' k s := by
  have hck := fun e => hK.chk e k w hk0
  have hst := hK.stays k w hk0
  rcases findKey_is hK hk0 w hM.toMapKs (k := k) with ⟨hf, hn, b⟩ | ⟨j, b, hf, c', hj, hjk, d⟩
  · refine ⟨es.push ⟨κ k, enc z, ck⟩, ck + 1, ck, ?_, ⟨⟨kupd_good hM.good hk0, ?_⟩, fun x hx => ?_, ?_⟩, es.size, ⟨κ k, enc z, ck⟩, by simp, rfl, rfl⟩
    · simp [Instr.mapEntry, run_underlying ht, MapKept.run_getObj_map hb, hck, hf, MapKept.run_setObj_map _ hb, zeroValue, typeInfo, hi, hz, hn, goInt]
    · rw [hn, b, Array.toList_push, List.map_append, List.map_append, hM.keys]; rfl
    · rw [Array.toList_push] at hx
      rcases List.mem_append.1 hx with h | h
      · have := hM.born x h; omega
      · simp only [List.mem_singleton] at h; subst h; simp
    · rw [Array.toList_push]; exact nodup_push hM.nodup hM.born rfl
  · have hsz := hM.toMapKs.size
    have hjs : j < es.size := by omega
    have hkey : es[j].key = κ k := by
      have h1 := congrArg (fun z => z[j]?) hM.keys
      simp only [List.getElem?_map, Array.getElem?_toList, Array.getElem?_eq_getElem hjs, Option.map_some] at h1
      rcases hD : D[j]? with _ | p
      · rw [hD] at hjk; cases hjk
      · rw [hD] at hjk h1
        simp only [Option.map_some, Option.some.injEq, Prod.mk.injEq] at hjk h1
        rw [h1.1, hjk]
    have hj2 : es[j]? = some es[j] := Array.getElem?_eq_getElem hjs
    refine ⟨es.modify j fun e => { e with key := κ k }, ck, es[j].born, ?_, ⟨⟨kupd_good hM.good hk0, ?_⟩, born_lt_modify (fun _ => rfl) hM.born, by rw [born_modify es j (fun e => { e with key := κ k }) (fun _ => rfl)]; exact hM.nodup⟩, j, { es[j] with key := κ k }, ?_, rfl, rfl⟩
    · simp [Instr.mapEntry, run_underlying ht, MapKept.run_getObj_map hb, hck, hf, hj2, hkey, hst, MapKept.run_setObj_map _ hb, c', goInt]
    · rw [c', Option.getD_some, kupd_same c', ← hM.keys]
      apply List.ext_getElem?
      intro i
      rw [List.getElem?_map, List.getElem?_map, Array.getElem?_toList, Array.getElem?_toList, Array.getElem?_modify]
      split
      · rename_i h
        subst h
        rw [hj2]
        simp [hkey]
      · rfl
    · rw [Array.getElem?_modify, if_pos rfl, hj2]; rfl
theorem kupd_at {j : Nat} {u : β} : ∀ {D : List (K × β)}, (D.map (·.1)).Nodup → (D[j]?).map (·.1) = some k → kupd D k u = D.set j (k, u)
  | [], _, h => by simp at h
  | p :: D, hn, h => by
    simp only [List.map_cons, List.nodup_cons] at hn
    cases j with
    | zero =>
      simp at h
      simp [kupd, h]
    | succ j =>
      simp at h
      obtain ⟨a, ha⟩ := h
      have hne : ¬ p.1 = k := fun e => hn.1 (by rw [e]; exact List.mem_map.2 ⟨_, List.mem_of_getElem? ha, rfl⟩)
      simp only [kupd, if_neg hne, List.set_cons_succ]
      rw [kupd_at hn.2 (by rw [ha]; rfl)]
theorem run_storeK (hinj : ∀ a b, κ a = κ b → a = b) (hnd : (D.map (·.1)).Nodup) (hb : w.heap[r]? = some (.map es ck)) (hM : MapKT G κ enc es ck D) {s : Nat} (hB : Born κ es k s) (v : β) :
    ∃ es', (Instr.entryStore t (.map (some r)) (.int .i64 (s : Nat)) (enc v)).run P w = .ok () { w with heap := w.heap.setIfInBounds r (.map es' ck) } ∧ MapKT G κ enc es' ck (kupd D k v) := by
  obtain ⟨i, e, he, hs, hk⟩ := hB
  obtain ⟨p, hp, hpk, _⟩ := key_at hM.toMapKs he
  have hpk2 : p.1 = k := hinj _ _ (by rw [← hpk, hk])
  have hil := (Array.getElem?_eq_some_iff.1 he).1
  have hfi : es.findIdx? (fun e => (e.born : Int) == (s : Int)) = some i := by
    rw [Array.findIdx?_eq_some_iff_getElem]
    refine ⟨hil, ?_, fun j hji => ?_⟩
    · have : es[i] = e := (Array.getElem?_eq_some_iff.1 he).2
      simp [this, hs]
    · intro hc
      have hc2 : es[j].born = s := by have := eq_of_beq hc; omega
      have hx := hM.nodup
      have hj2 : j < es.size := by omega
      refine List.pairwise_iff_getElem.1 hx j i (by simpa using hj2) (by simpa using hil) hji ?_
      simp only [List.getElem_map, Array.getElem_toList]
      rw [hc2, (Array.getElem?_eq_some_iff.1 he).2, hs]
  have hset := kupd_at (u := v) (j := i) hnd (by rw [hp]; exact congrArg some hpk2)
  refine ⟨es.modify i fun e => { e with val := enc v }, ?_, ⟨⟨fun q hq => ?_, ?_⟩, born_lt_modify (fun _ => rfl) hM.born, by rw [born_modify es i (fun e => { e with val := enc v }) (fun _ => rfl)]; exact hM.nodup⟩⟩
  · simp [Instr.entryStore, MapKept.run_getObj_map hb, asInt, asIntOf, hfi, MapKept.run_setObj_map _ hb]
  · rw [hset] at hq
    rcases List.mem_or_eq_of_mem_set hq with h | h
    · exact hM.good q h
    · subst h; rw [← hpk2]; exact hM.good p (List.mem_of_getElem? hp)
  · rw [hset]
    apply List.ext_getElem?
    intro j
    rw [List.getElem?_map, List.getElem?_map, Array.getElem?_toList, Array.getElem?_modify, List.getElem?_set]
    have h1 := congrArg (fun z => z[j]?) hM.keys
    simp only [List.getElem?_map, Array.getElem?_toList] at h1
    by_cases hij : i = j
    · subst hij
      have : i < D.length := (List.getElem?_eq_some_iff.1 hp).1
      rw [if_pos rfl, if_pos rfl, if_pos this, he]; simp [hk]
    · rw [if_neg hij, if_neg hij, h1]
theorem kupd_keys {a : β} : ∀ {D : List (K × β)}, (kupd D k a).map (·.1) = D.map (·.1) ∧ k ∈ D.map (·.1) ∨ (kupd D k a).map (·.1) = D.map (·.1) ++ [k] ∧ k ∉ D.map (·.1)
  | [] => .inr ⟨rfl, by simp⟩
  | p :: D => by
    simp only [kupd]
    split
    · rename_i e; left; subst e; simp
    · rename_i e
      rcases kupd_keys (a := a) (D := D) with ⟨h1, h2⟩ | ⟨h1, h2⟩
      · left; exact ⟨by simp [h1], by simp [h2]⟩
      · right; exact ⟨by simp [h1], by simp only [List.map_cons, List.mem_cons, not_or]; exact ⟨fun e2 => e e2.symm, h2⟩⟩
theorem kupd_nodup {a : β} (h : (D.map (·.1)).Nodup) : ((kupd D k a).map (·.1)).Nodup := by
  rcases kupd_keys (k := k) (a := a) (D := D) with ⟨h1, _⟩ | ⟨h1, h2⟩
  · rw [h1]; exact h
  · rw [h1, List.nodup_append]
    exact ⟨h, by simp, fun x hx y hy e => by simp only [List.mem_singleton] at hy; subst hy; subst e; exact h2 hx⟩
end
section
variable {E : Env} {k : List Fr} {l : Sl} {L : List Ob} {all os : List Oper} {o : Oper} {i : Nat} {K β : Type} [DecidableEq K] {G : K → Prop} {κ : K → Value} {enc : β → Value} {es : Array MapEntry} {ck : Nat} {D : List (K × β)}
theorem ops_entryK (j : Nat) {t kt : TypeId} {x y : Operand} {g : Nat} {kk : K} (z : β) (hK : KeyOk E.P kt G κ) (hk0 : G kk) (ho : o.op = .mapEntry t x y) (hw : wantL all l o = some true) (hd : (okD E.n o.dst && knownO l o) = true)
    (hx : look l x = .map (some g)) (hy : look l y = κ kk) (hT : mapK E.P t kt (enc z)) (hj : L[j]? = some (g, .map es ck)) (hM : MapKT G κ enc es ck D)
    (h : ∀ es' ck' (s : Nat), MapKT G κ enc es' ck' (kupd D kk ((kget D kk).getD z)) → Born κ es' kk s → Ops E k all os (i + 1) (putL o.dst (.tuple #[enc ((kget D kk).getD z), .int .i64 (s : Nat)]) l) (L.set j (g, .map es' ck'))) : Ops E k all (o :: os) i l L := by
  obtain ⟨et, h1, h34⟩ := hT
  obtain ⟨inf, h3, h4⟩ := Option.bind_eq_some_iff.1 h34
  refine ⟨fun a w ha hs => ?_⟩
  simp only [Bool.and_eq_true] at hd
  have hg := wantL_spec ha hw
  refine wpListIn_step fun K hK2 => ?_
  rw [if_pos hg]
  refine ⟨fun _ _ => trivial, ?_⟩
  rw [Oper.semAt_eq _ _ _ (fun c e => by rw [ho] at e; cases e), look_exec ha hd.2]
  obtain ⟨es', ck', s, hr, hM', hB⟩ := run_entryK (w := w) hK hk0 h1 h3 h4 (hs.row j hj) hM
  have e : (execOp (look l) o).run E.P w = .ok (.value (.tuple #[enc ((kget D kk).getD z), .int .i64 (s : Nat)])) { w with heap := w.heap.setIfInBounds g (.map es' ck') } := by
    simp [execOp, ho, hx, hy, hr]
  rw [e]
  exact hK2 _ _ ((h es' ck' s hM' hB).out _ _ (ha.put hd.1 _) (hs.turn j hj (turn_obj (hs.row j hj) _)))
theorem ops_storeK (j : Nat) {t : TypeId} {x y v : Operand} {g s : Nat} {kk : K} {a : β} (b : β) (hinj : ∀ a b, κ a = κ b → a = b) (hnd : (D.map (·.1)).Nodup) (ho : o.op = .entryStore t x y v) (hw : wantL all l o = some true) (hd : (okD E.n o.dst && knownO l o) = true)
    (hx : look l x = .map (some g)) (hy : look l y = .int .i64 (s : Nat)) (hv : look l v = enc b) (hj : L[j]? = some (g, .map es ck)) (hM : MapKT G κ enc es ck (kupd D kk a)) (hB : Born κ es kk s)
    (h : ∀ es', MapKT G κ enc es' ck (kupd D kk b) → Ops E k all os (i + 1) (putL o.dst undef l) (L.set j (g, .map es' ck))) : Ops E k all (o :: os) i l L := by
  refine ⟨fun a w ha hs => ?_⟩
  simp only [Bool.and_eq_true] at hd
  have hg := wantL_spec ha hw
  refine wpListIn_step fun K hK2 => ?_
  rw [if_pos hg]
  refine ⟨fun _ _ => trivial, ?_⟩
  rw [Oper.semAt_eq _ _ _ (fun c e => by rw [ho] at e; cases e), look_exec ha hd.2]
  obtain ⟨es', hr, hM'⟩ := run_storeK (P := E.P) (t := t) (w := w) hinj (kupd_nodup hnd) (hs.row j hj) hM hB b
  rw [kupd_kupd] at hM'
  have e : (execOp (look l) o).run E.P w = .ok .skip { w with heap := w.heap.setIfInBounds g (.map es' ck) } := by
    simp [execOp, ho, hx, hy, hv, hr]
  rw [e]
  exact hK2 _ _ ((h es' hM').out _ _ (ha.put hd.1 _) (hs.turn j hj (turn_obj (hs.row j hj) _)))
end
section
variable {E : Env} {k : List Fr} {l : Sl} {L : List Ob} {all os : List Oper} {o : Oper} {i : Nat} {K β : Type} {G : K → Prop} {κ : K → Value} {enc : β → Value} {es : Array MapEntry} {ck : Nat} {D : List (K × β)}
/-- A range over a map begins: the iterator is a block of one's own. -/
theorem ops_rangeK (j : Nat) {t : TypeId} {x : Operand} {g : Nat} (ho : o.op = .range t x) (hw : wantL all l o = some true) (hd : (okD E.n o.dst && knownO l o) = true) (hx : look l x = .map (some g)) (hT : ∃ kt et, E.P.underlying t = some (.map kt et)) (hj : L[j]? = some (g, .map es ck))
    (h : ∀ r : Nat, Ops E k all os (i + 1) (putL o.dst (.pointer (some ⟨r, 0, none⟩)) l) ((r, .mapIter (some g) ck #[] ck) :: L)) : Ops E k all (o :: os) i l L := by
  obtain ⟨kt, et, h1⟩ := hT
  refine ⟨fun a w ha hs => ?_⟩
  simp only [Bool.and_eq_true] at hd
  have hg := wantL_spec ha hw
  refine wpListIn_step fun K hK2 => ?_
  rw [if_pos hg]
  refine ⟨fun _ _ => trivial, ?_⟩
  rw [Oper.semAt_eq _ _ _ (fun c e => by rw [ho] at e; cases e), look_exec ha hd.2]
  have hr := run_range_map (P := E.P) w t kt et g es ck h1 (hs.row j hj)
  have e : (execOp (look l) o).run E.P w = .ok (.value (.pointer (some ⟨w.heap.size, 0, none⟩))) (w.alloc (.mapIter (some g) ck #[] ck)) := by
    simp [execOp, ho, hx, hr]
  rw [e]
  exact hK2 _ _ ((h w.heap.size).out _ _ (ha.put hd.1 _) (hs.cons _))
/-- One step over a map: nothing is left, or some entry that was not yet. -/
theorem ops_nextK (j jm : Nat) {x : Operand} {g r : Nat} {seen : Array Nat} (ho : o.op = .next x false) (hw : wantL all l o = some true) (hd : (okD E.n o.dst && knownO l o) = true) (hx : look l x = .pointer (some ⟨r, 0, none⟩))
    (hj : L[j]? = some (r, .mapIter (some g) ck seen ck)) (hjm : L[jm]? = some (g, .map es ck)) (hM : MapKT G κ enc es ck D)
    (h0 : Ops E k all os (i + 1) (putL o.dst (.tuple #[.bool false]) l) L)
    (h1 : ∀ (seen' : Array Nat) (p : K × β), p ∈ D → Cur κ enc es seen' p → (leftOf es seen').size < (leftOf es seen).size → Ops E k all os (i + 1) (putL o.dst (.tuple #[.bool true, κ p.1, enc p.2]) l) (L.set j (r, .mapIter (some g) ck seen' ck))) : Ops E k all (o :: os) i l L := by
  refine ⟨fun a w ha hs => ?_⟩
  simp only [Bool.and_eq_true] at hd
  have hg := wantL_spec ha hw
  refine wpListIn_step fun K hK2 => ?_
  rw [if_pos hg]
  refine ⟨fun _ _ => trivial, ?_⟩
  rw [Oper.semAt_eq _ _ _ (fun c e => by rw [ho] at e; cases e), look_exec ha hd.2]
  rcases run_next_at (P := E.P) w o.type r g ck ck seen es ck (hs.row j hj) (hs.row jm hjm) hM.born (Nat.le_refl _) with ⟨_, hr⟩ | ⟨e, he, w1, hw1, hr⟩
  · have e : (execOp (look l) o).run E.P w = .ok (.value (.tuple #[.bool false])) w := by
      simp [execOp, ho, hx, hr]
    rw [e]
    exact hK2 _ _ (h0.out _ _ (ha.put hd.1 _) hs)
  · obtain ⟨p, hp, e1, e2⟩ := hM.toMapKs.entry (mem_left he).1
    have e3 : (execOp (look l) o).run E.P w = .ok (.value (.tuple #[.bool true, κ p.1, enc p.2])) (ChangeMaps.setBlock w1 r (.mapIter (some g) ck (seen.push e.born) ck)) := by
      rw [← e1, ← e2]; simp [execOp, ho, hx, hr]
    rw [e3]
    have hs1 : Hs E.w0 L w1 := hw1.elim (fun e => e ▸ hs) (fun e => e ▸ hs.drew)
    exact hK2 _ _ ((h1 (seen.push e.born) p hp ⟨e, seen, (mem_left he).1, rfl, e1, e2⟩ (left_shrinks es seen e he)).out _ _ (ha.put hd.1 _) (hs1.turn j hj (turn_obj (hs1.row j hj) _)))
/-- The entry that the step handed out. -/
theorem ops_curK (j jm : Nat) {x : Operand} {g r : Nat} {seen : Array Nat} {p : K × β} (ho : o.op = .entry x) (hw : wantL all l o = some true) (hd : (okD E.n o.dst && knownO l o) = true) (hx : look l x = .pointer (some ⟨r, 0, none⟩))
    (hj : L[j]? = some (r, .mapIter (some g) ck seen ck)) (hjm : L[jm]? = some (g, .map es ck)) (hM : MapKT G κ enc es ck D) (hc : Cur κ enc es seen p)
    (h : Ops E k all os (i + 1) (putL o.dst (.tuple #[κ p.1, enc p.2]) l) L) : Ops E k all (o :: os) i l L := by
  refine ⟨fun a w ha hs => ?_⟩
  simp only [Bool.and_eq_true] at hd
  have hg := wantL_spec ha hw
  refine wpListIn_step fun K hK2 => ?_
  rw [if_pos hg]
  refine ⟨fun _ _ => trivial, ?_⟩
  rw [Oper.semAt_eq _ _ _ (fun c e => by rw [ho] at e; cases e), look_exec ha hd.2]
  obtain ⟨e, s0, he, rfl, e1, e2⟩ := hc
  have hr := run_entry_at (P := E.P) w r g ck s0 es ck e (hs.row j hj) (hs.row jm hjm) he hM.nodup
  have e : (execOp (look l) o).run E.P w = .ok (.value (.tuple #[κ p.1, enc p.2])) w := by
    rw [← e1, ← e2]; simp [execOp, ho, hx, hr]
  rw [e]
  exact hK2 _ _ (h.out _ _ (ha.put hd.1 _) hs)
end
end Go.Proofs.Ytdbamgbgnpadjaa

/-! Alarms: how often each has rung, as a map; plain. -/
namespace Go.Proofs.Ytdbamgbgnpadjaa
open Go Go.RowKit

/-- Rings in a row of such. -/
structure RngsA where
  p : Option Addr
  n : Nat
  cap : Nat
  l : List Rng
def RngsA.enc (x : RngsA) : List Value := [.slice x.p x.n x.cap]
instance : Enc RngsA := ⟨RngsA.enc, 1, fun _ => rfl, fun x v h => by simp [RngsA.enc] at h; subst h; rfl, by decide⟩
/-- What a map holds that counts rings. -/
def bumpR (l : List Rng) : List ((Int × Int) × Int) := l.foldl (fun D r => kupd D (r.vcpu, r.port) ((kget D (r.vcpu, r.port)).getD 0 + (1 + r.missed))) []
/-- A ring that can be counted. -/
structure RngOk (r : Rng) : Prop where
  v0 : 0 ≤ r.vcpu
  v1 : r.vcpu ≤ 1000
  p0 : 0 ≤ r.port
  p1 : r.port ≤ 1000
  m0 : 0 ≤ r.missed
  m1 : r.missed ≤ 1125899906842624
structure RngsA.Reads (w : World) (x : RngsA) : Prop where
  sv : Sv w x.p x.l
  hn : x.n = x.l.length
  hl : x.n ≤ 100
  ok : ∀ r ∈ x.l, RngOk r
/-- All rings of the first j rows. -/
def flR (al : List RngsA) (j : Nat) : List Rng := ((al.take j).map RngsA.l).flatten
section
variable {l l' : List Rng} {r : Rng} {al : List RngsA} {x : RngsA} {j i : Nat} {v p : Int} {w : World}
theorem bumpR_on : bumpR (l ++ [r]) = kupd (bumpR l) (r.vcpu, r.port) ((kget (bumpR l) (r.vcpu, r.port)).getD 0 + (1 + r.missed)) := by simp [bumpR]
theorem flR_on (h : al[j]? = some x) : flR al (j + 1) = flR al j ++ x.l := by
  simp only [flR, take_one h, List.map_append, List.flatten_append, List.map_cons, List.map_nil, List.flatten_cons, List.flatten_nil, List.append_nil]
theorem flR_all (h : al.length ≤ j) : flR al j = (al.map RngsA.l).flatten := by simp only [flR, List.take_of_length_le h]
theorem flR_in (hx : al[j]? = some x) (hr : x.l[i]? = some r) : flR al j ++ x.l.take (i + 1) = flR al j ++ x.l.take i ++ [r] := by
  rw [take_one hr, List.append_assoc]
theorem bump_ind (P : List Rng → Prop) (h0 : P []) (h1 : ∀ l r, P l → P (l ++ [r])) (l : List Rng) : P l := by
  have : ∀ m : List Rng, P m.reverse := fun m => by
    induction m with
    | nil => exact h0
    | cons a m ih => rw [List.reverse_cons]; exact h1 _ _ ih
  have h := this l.reverse
  rwa [List.reverse_reverse] at h
theorem bump_cnt : (kget (bumpR l) (v, p)).getD 0 = cntR l v p := by
  refine bump_ind (fun l => (kget (bumpR l) (v, p)).getD 0 = cntR l v p) rfl (fun l r ih => ?_) l
  rw [bumpR_on, cnt_app]
  by_cases h : (r.vcpu, r.port) = (v, p)
  · rw [h, kget_kupd]
    simp only [Prod.mk.injEq] at h
    simp only [Option.getD_some, ih, cntR, List.map_cons, List.map_nil, List.sum_cons, List.sum_nil, wgt, if_pos h]
    omega
  · rw [kget_upd fun e => h e.symm, ih]
    simp only [Prod.mk.injEq] at h
    simp only [cntR, List.map_cons, List.map_nil, List.sum_cons, List.sum_nil, wgt, if_neg h]
    omega
theorem cnt_bnd : ∀ (l : List Rng), (∀ r ∈ l, RngOk r) → 0 ≤ cntR l v p ∧ cntR l v p ≤ (l.length : Int) * 1125899906842625
  | [], _ => by simp [cntR]
  | r :: l, h => by
    have ih := cnt_bnd l fun z hz => h z (by simp [hz])
    have hr := h r (by simp)
    have h1 := hr.m0
    have h2 := hr.m1
    have e : cntR (r :: l) v p = wgt v p r + cntR l v p := by simp [cntR]
    rw [e]
    have hw : 0 ≤ wgt v p r ∧ wgt v p r ≤ 1125899906842625 := by unfold wgt; split <;> omega
    simp only [List.length_cons, Int.natCast_add, Int.add_mul]
    omega
theorem bump_bnd (h : ∀ r ∈ l, RngOk r) (hl : l.length ≤ 1000) : 0 ≤ (kget (bumpR l) (v, p)).getD 0 ∧ (kget (bumpR l) (v, p)).getD 0 ≤ 1125899906842625000 := by
  rw [bump_cnt]
  have := cnt_bnd (v := v) (p := p) l h
  omega
theorem cnt_pos : ∀ (l : List Rng), (∀ r ∈ l, RngOk r) → (0 < cntR l v p ↔ ∃ r ∈ l, r.vcpu = v ∧ r.port = p)
  | [], _ => by simp [cntR]
  | r :: l, h => by
    have ih := cnt_pos l fun z hz => h z (by simp [hz])
    have hb := (cnt_bnd (v := v) (p := p) l fun z hz => h z (by simp [hz])).1
    have hr := (h r (by simp)).m0
    have e : cntR (r :: l) v p = wgt v p r + cntR l v p := by simp [cntR]
    rw [e]
    by_cases hq : r.vcpu = v ∧ r.port = p
    · have hw : wgt v p r = 1 + r.missed := if_pos hq
      exact ⟨fun _ => ⟨r, by simp, hq⟩, fun _ => by omega⟩
    · have hw : wgt v p r = 0 := if_neg hq
      rw [hw, Int.zero_add, ih]
      constructor
      · rintro ⟨z, hz, h2⟩; exact ⟨z, by simp [hz], h2⟩
      · rintro ⟨z, hz, h2⟩
        rcases List.mem_cons.1 hz with e | e
        · subst e; exact absurd h2 hq
        · exact ⟨z, e, h2⟩
theorem bump_nodup : ((bumpR l).map (·.1)).Nodup := by
  refine bump_ind (fun l => ((bumpR l).map (·.1)).Nodup) List.nodup_nil (fun l r ih => ?_) l
  rw [bumpR_on]; exact kupd_nodup ih
theorem bump_keys : (v, p) ∈ (bumpR l).map (·.1) ↔ ∃ r ∈ l, r.vcpu = v ∧ r.port = p := by
  refine bump_ind (fun l => (v, p) ∈ (bumpR l).map (·.1) ↔ ∃ r ∈ l, r.vcpu = v ∧ r.port = p) (by simp [bumpR]) (fun l r ih => ?_) l
  rw [bumpR_on]
  have hk : (v, p) ∈ (kupd (bumpR l) (r.vcpu, r.port) ((kget (bumpR l) (r.vcpu, r.port)).getD 0 + (1 + r.missed))).map (·.1) ↔ (v, p) ∈ (bumpR l).map (·.1) ∨ (v, p) = (r.vcpu, r.port) := by
    rcases kupd_keys (k := (r.vcpu, r.port)) (a := (kget (bumpR l) (r.vcpu, r.port)).getD 0 + (1 + r.missed)) (D := bumpR l) with ⟨h1, h2⟩ | ⟨h1, _⟩
    · rw [h1]; exact ⟨.inl, fun h => h.elim id fun e => by rw [e]; exact h2⟩
    · rw [h1, List.mem_append, List.mem_singleton]
  rw [hk, ih]
  constructor
  · rintro (⟨z, hz, h⟩ | h)
    · exact ⟨z, by simp [hz], h⟩
    · simp only [Prod.mk.injEq] at h
      exact ⟨r, by simp, h.1.symm, h.2.symm⟩
  · rintro ⟨z, hz, h1, h2⟩
    rcases List.mem_append.1 hz with e | e
    · exact .inl ⟨z, e, h1, h2⟩
    · simp only [List.mem_singleton] at e
      subst e; subst h1; subst h2; exact .inr rfl
/-- The same counts: as many that were counted. -/
theorem bump_same (h : ∀ r ∈ l, RngOk r) (h' : ∀ r ∈ l', RngOk r) (e : ∀ v p, cntR l v p = cntR l' v p) : (bumpR l).length = (bumpR l').length := by
  have := ((List.perm_ext_iff_of_nodup (bump_nodup (l := l)) (bump_nodup (l := l'))).2 fun q => by
    obtain ⟨v, p⟩ := q
    rw [bump_keys, bump_keys, ← cnt_pos l h, ← cnt_pos l' h', e]).length_eq
  simpa using this
theorem flR_ok (h : ∀ x ∈ al, x.Reads w) : ∀ r ∈ flR al j, RngOk r := fun r hr => by
  obtain ⟨m, hm, hrm⟩ := List.mem_flatten.1 hr
  obtain ⟨x, hx, rfl⟩ := List.mem_map.1 hm
  exact (h x (List.mem_of_mem_take hx)).ok r hrm
theorem rows_flat_len : ∀ (al : List RngsA), (∀ x ∈ al, x.l.length ≤ 100) → ((al.map RngsA.l).flatten).length ≤ al.length * 100
  | [], _ => by simp
  | x :: al, h => by
    have ih := rows_flat_len al fun z hz => h z (by simp [hz])
    have h1 := h x (by simp)
    simp only [List.map_cons, List.flatten_cons, List.length_append, List.length_cons]
    omega
theorem counts_bnd (h : ∀ x ∈ al, x.Reads w) (hm : al.length ≤ 5) (hx : al[j]? = some x) (i : Nat) : 0 ≤ (kget (bumpR (flR al j ++ x.l.take i)) (v, p)).getD 0 ∧ (kget (bumpR (flR al j ++ x.l.take i)) (v, p)).getD 0 ≤ 1125899906842625000 := by
  have hxr := h x (List.mem_of_getElem? hx)
  have hx1 := hxr.hn
  have hx2 := hxr.hl
  refine bump_bnd (fun r hr => ?_) ?_
  · rcases List.mem_append.1 hr with e | e
    · exact flR_ok h r e
    · exact hxr.ok r (List.mem_of_mem_take e)
  · have h1 := rows_flat_len (al.take j) fun z hz => by
      have hz := h z (List.mem_of_mem_take hz)
      have := hz.hn; have := hz.hl; omega
    have h2 := List.length_take_le' j al
    have h3 : (x.l.take i).length ≤ x.l.length := List.length_take_le' i x.l
    rw [List.length_append]
    simp only [flR]
    omega
/-- Rings can be counted. -/
theorem rings_ok {now to : Int} {ts : List Tim} {rs : List Alm} (g : GoodA now ts rs) (h1 : now ≤ to) (h2 : to ≤ 1125899906842624) : ∀ r ∈ (ringsV to ts rs).2.2, RngOk r := fun r hr => by
  obtain ⟨j, hj⟩ := List.mem_iff_getElem?.1 hr
  have hb := ring_bnd g h1 h2 hj
  obtain ⟨t, ht, rfl⟩ := ring_at g h1 h2 hj
  have hm := ring_is g ht
  have hn0 := g.gw.n0
  have hmi : 0 ≤ (ringOf to rs t).missed ∧ (ringOf to rs t).missed ≤ 1125899906842624 := by
    rcases hm.2.2 with ⟨hi, x, hx, hax, e⟩ | ⟨hi, e⟩
    · rw [e]
      have h3 := miss_bnd (at_ := t.due) (to := to) hax (by omega)
      have h4 := miss_le (at_ := t.due) (to := to) hax (by omega)
      exact ⟨h3.1, by simp only; omega⟩
    · rw [e]; simp only; omega
  exact ⟨by omega, by omega, by omega, by omega, hmi.1, hmi.2⟩
end
end Go.Proofs.Ytdbamgbgnpadjaa

/-! How often each has rung: the walk. -/
namespace Go.Proofs.Ytdbamgbgnpadjaa
open Go Go.RowKit

set_option maxHeartbeats 1000000 in
set_option maxRecDepth 100000 in
theorem counts_t (q : Option Addr) (m cap2 : Nat) (al : List RngsA) (L : List Rng) (w : World)
 (hal : Sv w q al) (hma : m = al.length) (hm5 : m ≤ 5)
 (hL : (al.map RngsA.l).flatten = L) (hnm : ∀ x ∈ al, x.Reads w)
 : Calls Try.prog 12 #[.slice q m cap2] w fun e w' => ∃ g es ck, e = .returned (.map (some g)) ∧ MapKT twoG twoK (Value.int .i64) es ck (bumpR L) ∧ Below w.heap.size w w' ∧ Hs w [(g, .map es ck)] w' := by
 refine enter (Hs.start w) Try.func12 rfl Try.ntmps12 rfl (sq_ (qa0 [] [0] [] (ds_ (sq_ (ma0 [] [0] (fun γ2 => [(3, .map (some (γ2 0)))]) (fun γ2 L => (γ2 0, .map #[] 0) :: L) (fun γ2 => ds_ (sq_ (sq_ (qa0 [] [3] [(9, .slice q m cap2), (10, .int .i64 ((m : Nat))), (11, .int .i64 0)] (ds_ (at_block (at_loop (α := Nat × Array MapEntry × Nat) [3, 9, 10, 11] (fun ⟨j, es, ck⟩ => [(3, .map (some (γ2 0))), (9, .slice q m cap2), (10, .int .i64 ((m : Nat))), (11, .int .i64 ((j : Nat)))]) (fun ⟨j, es, ck⟩ => [(γ2 0, .map es ck)]) (fun ⟨j, es, ck⟩ => j ≤ m ∧ MapKT twoG twoK (Value.int .i64) es ck (bumpR (flR al j))) (fun ⟨j, es, ck⟩ => m - j) (0, #[], 0) (by kernel_rfl) rfl ⟨Nat.zero_le _, MapKT.nil⟩ ?_))))))))))))
 rintro ⟨j, es, ck⟩
 rintro ⟨hj, hM⟩
 refine sq_ ?_
 by_cases q5 : ((j : Nat) : Int) < ((m : Nat) : Int)
 ·
  refine qa [(0, .yes)] [3, 9, 10, 11] [(12, .bool true)] ([((j : Nat) : Int) < ((m : Nat) : Int)]) (al1 q5) (ds_ (sq_ (t_ (at_skip (ds_ (sq_ (at_block (sq_ ?_))))))))
  obtain ⟨b8, o8, rfl⟩ := hal.pos (i := j) (by omega)
  obtain ⟨x10, hx10⟩ := get_some (l := al) (m := j) (by omega)
  obtain ⟨hsx10, hnx10, hlx10, hkx10⟩ := hnm x10 (List.mem_of_getElem? hx10)
  refine qa [(0, .at b8 o8 j), (1, .go (outs b8 (o8 + j * 1) [.slice x10.p x10.n x10.cap]))] [3, 9, 10, 11] [(5, .slice x10.p x10.n x10.cap)] ([(some ⟨b8, o8, none⟩ : Option Addr) = some ⟨b8, o8, none⟩, ((j : Nat)) = ((j : Nat) : Int), j < m] ++ (cellsP w b8 (o8 + j * 1) [.slice x10.p x10.n x10.cap])) (alA (al2 rfl (al2 rfl (al1 (by omega)))) (rd_pre (hal.get hx10) _ rfl)) (ds_ (sq_ (qa0 [] [3, 9, 10, 11] [(15, .slice x10.p x10.n x10.cap), (16, .int .i64 ((x10.n : Nat))), (17, .int .i64 0)] (ds_ (at_block (at_loop (α := Nat × Array MapEntry × Nat) [3, 9, 10, 11, 15, 16, 17] (fun ⟨i, es2, ck2⟩ => [(3, .map (some (γ2 0))), (9, .slice (some ⟨b8, o8, none⟩) m cap2), (10, .int .i64 ((m : Nat))), (11, .int .i64 ((j : Nat))), (15, .slice x10.p x10.n x10.cap), (16, .int .i64 ((x10.n : Nat))), (17, .int .i64 ((i : Nat)))]) (fun ⟨i, es2, ck2⟩ => [(γ2 0, .map es2 ck2)]) (fun ⟨i, es2, ck2⟩ => i ≤ x10.n ∧ MapKT twoG twoK (Value.int .i64) es2 ck2 (bumpR (flR al j ++ x10.l.take i))) (fun ⟨i, es2, ck2⟩ => x10.n - i) (0, es, ck) (by kernel_rfl) rfl ⟨Nat.zero_le _, by rw [List.take_zero, List.append_nil]; exact hM⟩ ?_))))))
  rintro ⟨i, es2, ck2⟩
  rintro ⟨hi, hM2⟩
  refine sq_ ?_
  by_cases q14 : ((i : Nat) : Int) < ((x10.n : Nat) : Int)
  ·
   refine qa [(0, .yes)] [3, 9, 10, 11, 15, 16, 17] [(18, .bool true)] ([((i : Nat) : Int) < ((x10.n : Nat) : Int)]) (al1 q14) (ds_ (sq_ (t_ (at_skip (ds_ (sq_ (at_block (sq_ ?_))))))))
   obtain ⟨b17, o17, hbo17⟩ := hsx10.pos (i := i) (by omega)
   have hsv17 := hsx10
   rw [hbo17] at hsv17
   obtain ⟨x19, hx19⟩ := get_some (l := x10.l) (m := i) (by omega)
   refine ma [(0, .at b17 o17 i), (1, .go (outs b17 (o17 + i * 4) [.int .i64 x19.vcpu, .int .i64 x19.port, .int .i64 x19.at_, .int .i64 x19.missed])), (3, .go (owns 0 0 4))] [3, 9, 10, 11, 15, 16, 17] (fun γ20 => [(7, .pointer (some ⟨γ20 0, 0, none⟩))]) (fun γ20 L => bx (γ20 0) (#[.int .i64 x19.vcpu, .int .i64 x19.port, .int .i64 x19.at_, .int .i64 x19.missed]) 44 :: L) (fun γ20 => [(x10.p : Option Addr) = some ⟨b17, o17, none⟩, ((i : Nat)) = ((i : Nat) : Int), i < x10.n] ++ (cellsP w b17 (o17 + i * 4) [.int .i64 x19.vcpu, .int .i64 x19.port, .int .i64 x19.at_, .int .i64 x19.missed])) (fun γ20 => (alA (al2 hbo17 (al2 rfl (al1 (by omega)))) (rd_pre (hsv17.get hx19) _ rfl))) (fun γ20 => ds_ ?_)
   obtain ⟨hv0, hv1, hp0, hp1, hm0, hm1⟩ := hkx10 x19 (List.mem_of_getElem? hx19)
   have hbb := counts_bnd (v := x19.vcpu) (p := x19.port) hnm (by omega) hx10 i
   refine at_any (by kernel_rfl) ?_
   refine tk (m := 10) [0, 1, 3, 7] [] [3, 9, 10, 11, 15, 16, 17] [(21, .map (some (γ2 0))), (22, .pointer (some ⟨γ20 0, 0, none⟩)), (24, .pointer (some ⟨γ20 0, 1, none⟩)), (28, .pointer (some ⟨γ20 0, 3, none⟩))] ([]) #[true, true, false, true, false, false, false, true, false, false, false, false, false, false] al0 ?_
   refine any_cutX (V := (Nat) × (Array MapEntry) × (Array MapEntry) × (Nat)) (fun ⟨ck244, es244, es284, st244⟩ => Born twoK es244 (x19.vcpu, x19.port) st244 ∧ MapKT twoG twoK (Value.int .i64) es244 ck244 (kupd ((bumpR (flR al j ++ x10.l.take i))) (x19.vcpu, x19.port) ((kget ((bumpR (flR al j ++ x10.l.take i))) (x19.vcpu, x19.port)).getD (0 : Int))) ∧ MapKT twoG twoK (Value.int .i64) es284 ck244 (kupd ((bumpR (flR al j ++ x10.l.take i))) (x19.vcpu, x19.port) ((((kget ((bumpR (flR al j ++ x10.l.take i))) (x19.vcpu, x19.port)).getD (0 : Int))) + (1 + x19.missed)))) 0 #[true, true, true, true, true, true, true, true, true, true, true, true, true, true] (fun ⟨ck244, es244, es284, st244⟩ => [(3, .map (some (γ2 0))), (9, .slice (some ⟨b8, o8, none⟩) m cap2), (10, .int .i64 ((m : Nat))), (11, .int .i64 ((j : Nat))), (15, .slice x10.p x10.n x10.cap), (16, .int .i64 ((x10.n : Nat))), (17, .int .i64 ((i : Nat)))]) (fun ⟨ck244, es244, es284, st244⟩ => [bx (γ20 0) (#[.int .i64 x19.vcpu, .int .i64 x19.port, .int .i64 x19.at_, .int .i64 x19.missed]) 44, (γ2 0, .map es284 ck244)]) ?_ (fun hmx12 => ?_)
   rotate_left
   ·
    refine any_cutX (V := (Nat) × (Array MapEntry) × (Nat)) (fun ⟨ck244, es244, st244⟩ => Born twoK es244 (x19.vcpu, x19.port) st244 ∧ MapKT twoG twoK (Value.int .i64) es244 ck244 (kupd ((bumpR (flR al j ++ x10.l.take i))) (x19.vcpu, x19.port) ((kget ((bumpR (flR al j ++ x10.l.take i))) (x19.vcpu, x19.port)).getD (0 : Int)))) 1 #[true, true, true, true, true, true, true, true, true, true, true, true, true, false] (fun ⟨ck244, es244, st244⟩ => [(3, .map (some (γ2 0))), (9, .slice (some ⟨b8, o8, none⟩) m cap2), (10, .int .i64 ((m : Nat))), (11, .int .i64 ((j : Nat))), (15, .slice x10.p x10.n x10.cap), (16, .int .i64 ((x10.n : Nat))), (17, .int .i64 ((i : Nat))), (21, .map (some (γ2 0))), (31, .int .i64 ((((kget ((bumpR (flR al j ++ x10.l.take i))) (x19.vcpu, x19.port)).getD (0 : Int))) + (1 + x19.missed))), (33, .int .i64 ((st244 : Nat)))]) (fun ⟨ck244, es244, st244⟩ => [bx (γ20 0) (#[.int .i64 x19.vcpu, .int .i64 x19.port, .int .i64 x19.at_, .int .i64 x19.missed]) 44, (γ2 0, .map es244 ck244)]) ?_ (fun hmx11 => ?_)
    ·
     rintro ⟨ck244, es244, st244⟩ ⟨hB244, hM244⟩
     refine a1 13 rfl ?_
     refine ops_storeK (κ := twoK) (enc := (Value.int .i64)) (kk := (x19.vcpu, x19.port)) (s := st244) 1 ((((kget ((bumpR (flR al j ++ x10.l.take i))) (x19.vcpu, x19.port)).getD (0 : Int))) + (1 + x19.missed)) (fun _ _ h => twoK_inj h) bump_nodup rfl (by kernel_rfl) (by kernel_rfl) (by kernel_rfl) (by kernel_rfl) (by kernel_rfl) rfl hM244 hB244 (fun es284 hM284 => ?_)
     refine od_ ?_
     exact wk (hmx12 (ck244, es244, es284, st244) ⟨hB244, hM244, hM284⟩) [3, 9, 10, 11, 15, 16, 17] [[_], [_]] [0, 1] rfl rfl
    refine any_cutX (V := (Nat) × (Array MapEntry) × (Nat)) (fun ⟨ck244, es244, st244⟩ => Born twoK es244 (x19.vcpu, x19.port) st244 ∧ MapKT twoG twoK (Value.int .i64) es244 ck244 (kupd ((bumpR (flR al j ++ x10.l.take i))) (x19.vcpu, x19.port) ((kget ((bumpR (flR al j ++ x10.l.take i))) (x19.vcpu, x19.port)).getD (0 : Int)))) 3 #[true, true, true, true, true, true, false, true, true, true, false, true, true, false] (fun ⟨ck244, es244, st244⟩ => [(3, .map (some (γ2 0))), (9, .slice (some ⟨b8, o8, none⟩) m cap2), (10, .int .i64 ((m : Nat))), (11, .int .i64 ((j : Nat))), (15, .slice x10.p x10.n x10.cap), (16, .int .i64 ((x10.n : Nat))), (17, .int .i64 ((i : Nat))), (21, .map (some (γ2 0))), (26, .agg #[.int .i64 x19.vcpu, .int .i64 x19.port]), (30, .int .i64 (1 + x19.missed)), (33, .int .i64 ((st244 : Nat)))]) (fun ⟨ck244, es244, st244⟩ => [bx (γ20 0) (#[.int .i64 x19.vcpu, .int .i64 x19.port, .int .i64 x19.at_, .int .i64 x19.missed]) 44, (γ2 0, .map es244 ck244)]) ?_ (fun hmx10 => ?_)
    ·
     rintro ⟨ck244, es244, st244⟩ ⟨hB244, hM244⟩
     refine a1 6 rfl ?_
     refine ops_lookupK (enc := (Value.int .i64)) (kk := (x19.vcpu, x19.port)) 1 ((Value.int .i64) (0 : Int)) (.int .i64 (((kget ((bumpR (flR al j ++ x10.l.take i))) (x19.vcpu, x19.port)).getD (0 : Int)))) two_ok (two_good (by omega) (by omega) (by omega) (by omega)) rfl (by kernel_rfl) (by kernel_rfl) (by kernel_rfl) (by kernel_rfl) (⟨2, by kernel_rfl, by kernel_rfl⟩ : mapK Try.prog 37 39 ((Value.int .i64) (0 : Int))) rfl hM244.toMapKs look_ent ?_
     refine od_ ?_
     refine tk (m := 1) [10] [(10, .fit)] [3, 9, 10, 11, 15, 16, 17, 21, 33] [(31, .int .i64 ((((kget ((bumpR (flR al j ++ x10.l.take i))) (x19.vcpu, x19.port)).getD (0 : Int))) + (1 + x19.missed)))] ([Fit .i64 ((((kget ((bumpR (flR al j ++ x10.l.take i))) (x19.vcpu, x19.port)).getD (0 : Int))) + (1 + x19.missed))]) #[true, true, true, true, true, true, true, true, true, true, true, true, true, false] (al1 (fit64 (by omega) (by omega))) ?_
     exact wk (hmx11 (ck244, es244, st244) ⟨hB244, hM244⟩) [3, 9, 10, 11, 15, 16, 17, 21, 31, 33] [[_], [_]] [0, 1] rfl rfl
    refine any_cutX (V := Unit) (fun _ => True) 3 #[true, true, true, true, true, true, true, true, true, true, true, false, false, false] (fun _ => [(3, .map (some (γ2 0))), (9, .slice (some ⟨b8, o8, none⟩) m cap2), (10, .int .i64 ((m : Nat))), (11, .int .i64 ((j : Nat))), (15, .slice x10.p x10.n x10.cap), (16, .int .i64 ((x10.n : Nat))), (17, .int .i64 ((i : Nat))), (21, .map (some (γ2 0))), (26, .agg #[.int .i64 x19.vcpu, .int .i64 x19.port]), (31, .int .i64 ((((kget ((bumpR (flR al j ++ x10.l.take i))) (x19.vcpu, x19.port)).getD (0 : Int))) + (1 + x19.missed)))]) (fun _ => [bx (γ20 0) (#[.int .i64 x19.vcpu, .int .i64 x19.port, .int .i64 x19.at_, .int .i64 x19.missed]) 44, (γ2 0, .map es2 ck2)]) ?_ (fun hmx9 => ?_)
    ·
     rintro _ _
     refine a1 11 rfl ?_
     refine ops_entryK (enc := (Value.int .i64)) (kk := (x19.vcpu, x19.port)) 1 (0 : Int) two_ok (two_good (by omega) (by omega) (by omega) (by omega)) rfl (by kernel_rfl) (by kernel_rfl) (by kernel_rfl) (by kernel_rfl) (⟨2, by kernel_rfl, by kernel_rfl⟩ : mapK Try.prog 37 39 ((Value.int .i64) (0 : Int))) rfl hM2 (fun es244 ck244 st244 hM244 hB244 => ?_)
     refine od_ ?_
     refine tk (m := 1) [12] [] [3, 9, 10, 11, 15, 16, 17, 21, 31] [(33, .int .i64 ((st244 : Nat)))] ([]) #[true, true, true, true, true, true, true, true, true, true, true, true, true, false] al0 ?_
     exact wk (hmx11 (ck244, es244, st244) ⟨hB244, hM244⟩) [3, 9, 10, 11, 15, 16, 17, 21, 31, 33] [[_], [_]] [0, 1] rfl rfl
    refine any_cutX (V := Unit) (fun _ => True) 5 #[true, true, true, true, true, true, false, true, true, true, false, false, false, false] (fun _ => [(3, .map (some (γ2 0))), (9, .slice (some ⟨b8, o8, none⟩) m cap2), (10, .int .i64 ((m : Nat))), (11, .int .i64 ((j : Nat))), (15, .slice x10.p x10.n x10.cap), (16, .int .i64 ((x10.n : Nat))), (17, .int .i64 ((i : Nat))), (21, .map (some (γ2 0))), (26, .agg #[.int .i64 x19.vcpu, .int .i64 x19.port]), (30, .int .i64 (1 + x19.missed))]) (fun _ => [bx (γ20 0) (#[.int .i64 x19.vcpu, .int .i64 x19.port, .int .i64 x19.at_, .int .i64 x19.missed]) 44, (γ2 0, .map es2 ck2)]) ?_ (fun hmx8 => ?_)
    ·
     rintro _ _
     refine any_fork [6, 11] (by kernel_rfl) (by simp) (each_cons _ rfl ?_ (each_cons _ rfl ?_ (each_nil)))
     ·
      refine ops_lookupK (enc := (Value.int .i64)) (kk := (x19.vcpu, x19.port)) 1 ((Value.int .i64) (0 : Int)) (.int .i64 (((kget ((bumpR (flR al j ++ x10.l.take i))) (x19.vcpu, x19.port)).getD (0 : Int)))) two_ok (two_good (by omega) (by omega) (by omega) (by omega)) rfl (by kernel_rfl) (by kernel_rfl) (by kernel_rfl) (by kernel_rfl) (⟨2, by kernel_rfl, by kernel_rfl⟩ : mapK Try.prog 37 39 ((Value.int .i64) (0 : Int))) rfl hM2.toMapKs (map_getD _ _ _) ?_
      refine od_ ?_
      refine tk (m := 3) [10] [(10, .fit)] [3, 9, 10, 11, 15, 16, 17, 21, 26] [(31, .int .i64 ((((kget ((bumpR (flR al j ++ x10.l.take i))) (x19.vcpu, x19.port)).getD (0 : Int))) + (1 + x19.missed)))] ([Fit .i64 ((((kget ((bumpR (flR al j ++ x10.l.take i))) (x19.vcpu, x19.port)).getD (0 : Int))) + (1 + x19.missed))]) #[true, true, true, true, true, true, true, true, true, true, true, false, false, false] (al1 (fit64 (by omega) (by omega))) ?_
      exact wk (hmx9 () trivial) [3, 9, 10, 11, 15, 16, 17, 21, 26, 31] [[_], [_]] [0, 1] rfl rfl
     ·
      refine ops_entryK (enc := (Value.int .i64)) (kk := (x19.vcpu, x19.port)) 1 (0 : Int) two_ok (two_good (by omega) (by omega) (by omega) (by omega)) rfl (by kernel_rfl) (by kernel_rfl) (by kernel_rfl) (by kernel_rfl) (⟨2, by kernel_rfl, by kernel_rfl⟩ : mapK Try.prog 37 39 ((Value.int .i64) (0 : Int))) rfl hM2 (fun es244 ck244 st244 hM244 hB244 => ?_)
      refine od_ ?_
      refine tk (m := 3) [12] [] [3, 9, 10, 11, 15, 16, 17, 21, 26, 30] [(33, .int .i64 ((st244 : Nat)))] ([]) #[true, true, true, true, true, true, false, true, true, true, false, true, true, false] al0 ?_
      exact wk (hmx10 (ck244, es244, st244) ⟨hB244, hM244⟩) [3, 9, 10, 11, 15, 16, 17, 21, 26, 30, 33] [[_], [_]] [0, 1] rfl rfl
    refine any_cutX (V := Unit) (fun _ => True) 6 #[true, true, true, true, true, true, true, true, false, false, false, false, false, false] (fun _ => [(3, .map (some (γ2 0))), (9, .slice (some ⟨b8, o8, none⟩) m cap2), (10, .int .i64 ((m : Nat))), (11, .int .i64 ((j : Nat))), (15, .slice x10.p x10.n x10.cap), (16, .int .i64 ((x10.n : Nat))), (17, .int .i64 ((i : Nat))), (21, .map (some (γ2 0))), (26, .agg #[.int .i64 x19.vcpu, .int .i64 x19.port]), (27, .int .i64 (((kget ((bumpR (flR al j ++ x10.l.take i))) (x19.vcpu, x19.port)).getD (0 : Int)))), (28, .pointer (some ⟨γ20 0, 3, none⟩))]) (fun _ => [bx (γ20 0) (#[.int .i64 x19.vcpu, .int .i64 x19.port, .int .i64 x19.at_, .int .i64 x19.missed]) 44, (γ2 0, .map es2 ck2)]) ?_ (fun hmx7 => ?_)
    ·
     rintro _ _
     refine a1 8 rfl ?_
     refine qo0 1 [(8, .go (owns 0 3 1))] [3, 9, 10, 11, 15, 16, 17, 21, 26, 27] [(29, .int .i64 x19.missed)] ?_
     refine od_ ?_
     refine tk (m := 3) [9, 10] [(9, .fit), (10, .fit)] [3, 9, 10, 11, 15, 16, 17, 21, 26] [(31, .int .i64 ((((kget ((bumpR (flR al j ++ x10.l.take i))) (x19.vcpu, x19.port)).getD (0 : Int))) + (1 + x19.missed)))] ([Fit .i64 (1 + x19.missed)] ++ ([Fit .i64 ((((kget ((bumpR (flR al j ++ x10.l.take i))) (x19.vcpu, x19.port)).getD (0 : Int))) + (1 + x19.missed))])) #[true, true, true, true, true, true, true, true, true, true, true, false, false, false] (alA (al1 (fit64 (by omega) (by omega))) (al1 (fit64 (by omega) (by omega)))) ?_
     exact wk (hmx9 () trivial) [3, 9, 10, 11, 15, 16, 17, 21, 26, 31] [[_], [_]] [0, 1] rfl rfl
    refine any_cutX (V := Unit) (fun _ => True) 7 #[true, true, false, true, true, false, false, true, true, true, false, false, false, false] (fun _ => [(3, .map (some (γ2 0))), (9, .slice (some ⟨b8, o8, none⟩) m cap2), (10, .int .i64 ((m : Nat))), (11, .int .i64 ((j : Nat))), (15, .slice x10.p x10.n x10.cap), (16, .int .i64 ((x10.n : Nat))), (17, .int .i64 ((i : Nat))), (21, .map (some (γ2 0))), (22, .pointer (some ⟨γ20 0, 0, none⟩)), (25, .int .i64 x19.port), (30, .int .i64 (1 + x19.missed))]) (fun _ => [bx (γ20 0) (#[.int .i64 x19.vcpu, .int .i64 x19.port, .int .i64 x19.at_, .int .i64 x19.missed]) 44, (γ2 0, .map es2 ck2)]) ?_ (fun hmx6 => ?_)
    ·
     rintro _ _
     refine a1 2 rfl ?_
     refine qo0 1 [(2, .go (owns 0 0 1))] [3, 9, 10, 11, 15, 16, 17, 21, 25, 30] [(23, .int .i64 x19.vcpu)] ?_
     refine od_ ?_
     refine tk (m := 5) [5] [] [3, 9, 10, 11, 15, 16, 17, 21, 30] [(26, .agg #[.int .i64 x19.vcpu, .int .i64 x19.port])] ([]) #[true, true, true, true, true, true, false, true, true, true, false, false, false, false] al0 ?_
     exact wk (hmx8 () trivial) [3, 9, 10, 11, 15, 16, 17, 21, 26, 30] [[_], [_]] [0, 1] rfl rfl
    refine any_cutX (V := Unit) (fun _ => True) 7 #[true, true, true, true, false, false, false, true, true, true, false, false, false, false] (fun _ => [(3, .map (some (γ2 0))), (9, .slice (some ⟨b8, o8, none⟩) m cap2), (10, .int .i64 ((m : Nat))), (11, .int .i64 ((j : Nat))), (15, .slice x10.p x10.n x10.cap), (16, .int .i64 ((x10.n : Nat))), (17, .int .i64 ((i : Nat))), (21, .map (some (γ2 0))), (23, .int .i64 x19.vcpu), (24, .pointer (some ⟨γ20 0, 1, none⟩)), (30, .int .i64 (1 + x19.missed))]) (fun _ => [bx (γ20 0) (#[.int .i64 x19.vcpu, .int .i64 x19.port, .int .i64 x19.at_, .int .i64 x19.missed]) 44, (γ2 0, .map es2 ck2)]) ?_ (fun hmx5 => ?_)
    ·
     rintro _ _
     refine a1 4 rfl ?_
     refine qo0 1 [(4, .go (owns 0 1 1))] [3, 9, 10, 11, 15, 16, 17, 21, 23, 30] [(25, .int .i64 x19.port)] ?_
     refine od_ ?_
     refine tk (m := 5) [5] [] [3, 9, 10, 11, 15, 16, 17, 21, 30] [(26, .agg #[.int .i64 x19.vcpu, .int .i64 x19.port])] ([]) #[true, true, true, true, true, true, false, true, true, true, false, false, false, false] al0 ?_
     exact wk (hmx8 () trivial) [3, 9, 10, 11, 15, 16, 17, 21, 26, 30] [[_], [_]] [0, 1] rfl rfl
    refine any_cutX (V := Unit) (fun _ => True) 7 #[true, true, true, true, true, true, false, true, false, false, false, false, false, false] (fun _ => [(3, .map (some (γ2 0))), (9, .slice (some ⟨b8, o8, none⟩) m cap2), (10, .int .i64 ((m : Nat))), (11, .int .i64 ((j : Nat))), (15, .slice x10.p x10.n x10.cap), (16, .int .i64 ((x10.n : Nat))), (17, .int .i64 ((i : Nat))), (21, .map (some (γ2 0))), (26, .agg #[.int .i64 x19.vcpu, .int .i64 x19.port]), (28, .pointer (some ⟨γ20 0, 3, none⟩))]) (fun _ => [bx (γ20 0) (#[.int .i64 x19.vcpu, .int .i64 x19.port, .int .i64 x19.at_, .int .i64 x19.missed]) 44, (γ2 0, .map es2 ck2)]) ?_ (fun hmx4 => ?_)
    ·
     rintro _ _
     refine any_fork [6, 8] (by kernel_rfl) (by simp) (each_cons _ rfl ?_ (each_cons _ rfl ?_ (each_nil)))
     ·
      refine ops_lookupK (enc := (Value.int .i64)) (kk := (x19.vcpu, x19.port)) 1 ((Value.int .i64) (0 : Int)) (.int .i64 (((kget ((bumpR (flR al j ++ x10.l.take i))) (x19.vcpu, x19.port)).getD (0 : Int)))) two_ok (two_good (by omega) (by omega) (by omega) (by omega)) rfl (by kernel_rfl) (by kernel_rfl) (by kernel_rfl) (by kernel_rfl) (⟨2, by kernel_rfl, by kernel_rfl⟩ : mapK Try.prog 37 39 ((Value.int .i64) (0 : Int))) rfl hM2.toMapKs (map_getD _ _ _) ?_
      refine od_ ?_
      exact wk (hmx7 () trivial) [3, 9, 10, 11, 15, 16, 17, 21, 26, 27, 28] [[_], [_]] [0, 1] rfl rfl
     ·
      refine qo0 1 [(8, .go (owns 0 3 1))] [3, 9, 10, 11, 15, 16, 17, 21, 26] [(29, .int .i64 x19.missed)] ?_
      refine od_ ?_
      refine tk (m := 5) [9] [(9, .fit)] [3, 9, 10, 11, 15, 16, 17, 21, 26] [(30, .int .i64 (1 + x19.missed))] ([Fit .i64 (1 + x19.missed)]) #[true, true, true, true, true, true, false, true, true, true, false, false, false, false] (al1 (fit64 (by omega) (by omega))) ?_
      exact wk (hmx8 () trivial) [3, 9, 10, 11, 15, 16, 17, 21, 26, 30] [[_], [_]] [0, 1] rfl rfl
    refine any_cutX (V := Unit) (fun _ => True) 8 #[true, true, false, true, false, false, false, true, true, true, false, false, false, false] (fun _ => [(3, .map (some (γ2 0))), (9, .slice (some ⟨b8, o8, none⟩) m cap2), (10, .int .i64 ((m : Nat))), (11, .int .i64 ((j : Nat))), (15, .slice x10.p x10.n x10.cap), (16, .int .i64 ((x10.n : Nat))), (17, .int .i64 ((i : Nat))), (21, .map (some (γ2 0))), (22, .pointer (some ⟨γ20 0, 0, none⟩)), (24, .pointer (some ⟨γ20 0, 1, none⟩)), (30, .int .i64 (1 + x19.missed))]) (fun _ => [bx (γ20 0) (#[.int .i64 x19.vcpu, .int .i64 x19.port, .int .i64 x19.at_, .int .i64 x19.missed]) 44, (γ2 0, .map es2 ck2)]) ?_ (fun hmx3 => ?_)
    ·
     rintro _ _
     refine any_fork [2, 4] (by kernel_rfl) (by simp) (each_cons _ rfl ?_ (each_cons _ rfl ?_ (each_nil)))
     ·
      refine qo0 1 [(2, .go (owns 0 0 1))] [3, 9, 10, 11, 15, 16, 17, 21, 24, 30] [(23, .int .i64 x19.vcpu)] ?_
      refine od_ ?_
      exact wk (hmx5 () trivial) [3, 9, 10, 11, 15, 16, 17, 21, 23, 24, 30] [[_], [_]] [0, 1] rfl rfl
     ·
      refine qo0 1 [(4, .go (owns 0 1 1))] [3, 9, 10, 11, 15, 16, 17, 21, 22, 30] [(25, .int .i64 x19.port)] ?_
      refine od_ ?_
      exact wk (hmx6 () trivial) [3, 9, 10, 11, 15, 16, 17, 21, 22, 25, 30] [[_], [_]] [0, 1] rfl rfl
    refine any_cutX (V := Unit) (fun _ => True) 9 #[true, true, false, true, true, false, false, true, false, false, false, false, false, false] (fun _ => [(3, .map (some (γ2 0))), (9, .slice (some ⟨b8, o8, none⟩) m cap2), (10, .int .i64 ((m : Nat))), (11, .int .i64 ((j : Nat))), (15, .slice x10.p x10.n x10.cap), (16, .int .i64 ((x10.n : Nat))), (17, .int .i64 ((i : Nat))), (21, .map (some (γ2 0))), (22, .pointer (some ⟨γ20 0, 0, none⟩)), (25, .int .i64 x19.port), (28, .pointer (some ⟨γ20 0, 3, none⟩))]) (fun _ => [bx (γ20 0) (#[.int .i64 x19.vcpu, .int .i64 x19.port, .int .i64 x19.at_, .int .i64 x19.missed]) 44, (γ2 0, .map es2 ck2)]) ?_ (fun hmx2 => ?_)
    ·
     rintro _ _
     refine any_fork [2, 8] (by kernel_rfl) (by simp) (each_cons _ rfl ?_ (each_cons _ rfl ?_ (each_nil)))
     ·
      refine qo0 1 [(2, .go (owns 0 0 1))] [3, 9, 10, 11, 15, 16, 17, 21, 25, 28] [(23, .int .i64 x19.vcpu)] ?_
      refine od_ ?_
      refine tk (m := 7) [5] [] [3, 9, 10, 11, 15, 16, 17, 21, 28] [(26, .agg #[.int .i64 x19.vcpu, .int .i64 x19.port])] ([]) #[true, true, true, true, true, true, false, true, false, false, false, false, false, false] al0 ?_
      exact wk (hmx4 () trivial) [3, 9, 10, 11, 15, 16, 17, 21, 26, 28] [[_], [_]] [0, 1] rfl rfl
     ·
      refine qo0 1 [(8, .go (owns 0 3 1))] [3, 9, 10, 11, 15, 16, 17, 21, 22, 25] [(29, .int .i64 x19.missed)] ?_
      refine od_ ?_
      refine tk (m := 7) [9] [(9, .fit)] [3, 9, 10, 11, 15, 16, 17, 21, 22, 25] [(30, .int .i64 (1 + x19.missed))] ([Fit .i64 (1 + x19.missed)]) #[true, true, false, true, true, false, false, true, true, true, false, false, false, false] (al1 (fit64 (by omega) (by omega))) ?_
      exact wk (hmx6 () trivial) [3, 9, 10, 11, 15, 16, 17, 21, 22, 25, 30] [[_], [_]] [0, 1] rfl rfl
    refine any_cutX (V := Unit) (fun _ => True) 9 #[true, true, true, true, false, false, false, true, false, false, false, false, false, false] (fun _ => [(3, .map (some (γ2 0))), (9, .slice (some ⟨b8, o8, none⟩) m cap2), (10, .int .i64 ((m : Nat))), (11, .int .i64 ((j : Nat))), (15, .slice x10.p x10.n x10.cap), (16, .int .i64 ((x10.n : Nat))), (17, .int .i64 ((i : Nat))), (21, .map (some (γ2 0))), (23, .int .i64 x19.vcpu), (24, .pointer (some ⟨γ20 0, 1, none⟩)), (28, .pointer (some ⟨γ20 0, 3, none⟩))]) (fun _ => [bx (γ20 0) (#[.int .i64 x19.vcpu, .int .i64 x19.port, .int .i64 x19.at_, .int .i64 x19.missed]) 44, (γ2 0, .map es2 ck2)]) ?_ (fun hmx1 => ?_)
    ·
     rintro _ _
     refine any_fork [4, 8] (by kernel_rfl) (by simp) (each_cons _ rfl ?_ (each_cons _ rfl ?_ (each_nil)))
     ·
      refine qo0 1 [(4, .go (owns 0 1 1))] [3, 9, 10, 11, 15, 16, 17, 21, 23, 28] [(25, .int .i64 x19.port)] ?_
      refine od_ ?_
      refine tk (m := 7) [5] [] [3, 9, 10, 11, 15, 16, 17, 21, 28] [(26, .agg #[.int .i64 x19.vcpu, .int .i64 x19.port])] ([]) #[true, true, true, true, true, true, false, true, false, false, false, false, false, false] al0 ?_
      exact wk (hmx4 () trivial) [3, 9, 10, 11, 15, 16, 17, 21, 26, 28] [[_], [_]] [0, 1] rfl rfl
     ·
      refine qo0 1 [(8, .go (owns 0 3 1))] [3, 9, 10, 11, 15, 16, 17, 21, 23, 24] [(29, .int .i64 x19.missed)] ?_
      refine od_ ?_
      refine tk (m := 7) [9] [(9, .fit)] [3, 9, 10, 11, 15, 16, 17, 21, 23, 24] [(30, .int .i64 (1 + x19.missed))] ([Fit .i64 (1 + x19.missed)]) #[true, true, true, true, false, false, false, true, true, true, false, false, false, false] (al1 (fit64 (by omega) (by omega))) ?_
      exact wk (hmx5 () trivial) [3, 9, 10, 11, 15, 16, 17, 21, 23, 24, 30] [[_], [_]] [0, 1] rfl rfl
    refine any_fork [2, 4, 8] (by kernel_rfl) (by simp) (each_cons _ rfl ?_ (each_cons _ rfl ?_ (each_cons _ rfl ?_ (each_nil))))
    ·
     refine qo0 1 [(2, .go (owns 0 0 1))] [3, 9, 10, 11, 15, 16, 17, 21, 24, 28] [(23, .int .i64 x19.vcpu)] ?_
     refine od_ ?_
     exact wk (hmx1 () trivial) [3, 9, 10, 11, 15, 16, 17, 21, 23, 24, 28] [[_], [_]] [0, 1] rfl rfl
    ·
     refine qo0 1 [(4, .go (owns 0 1 1))] [3, 9, 10, 11, 15, 16, 17, 21, 22, 28] [(25, .int .i64 x19.port)] ?_
     refine od_ ?_
     exact wk (hmx2 () trivial) [3, 9, 10, 11, 15, 16, 17, 21, 22, 25, 28] [[_], [_]] [0, 1] rfl rfl
    ·
     refine qo0 1 [(8, .go (owns 0 3 1))] [3, 9, 10, 11, 15, 16, 17, 21, 22, 24] [(29, .int .i64 x19.missed)] ?_
     refine od_ ?_
     refine tk (m := 8) [9] [(9, .fit)] [3, 9, 10, 11, 15, 16, 17, 21, 22, 24] [(30, .int .i64 (1 + x19.missed))] ([Fit .i64 (1 + x19.missed)]) #[true, true, false, true, false, false, false, true, true, true, false, false, false, false] (al1 (fit64 (by omega) (by omega))) ?_
     exact wk (hmx3 () trivial) [3, 9, 10, 11, 15, 16, 17, 21, 22, 24, 30] [[_], [_]] [0, 1] rfl rfl
   rintro ⟨ck244, es244, es284, st244⟩ ⟨hB244, hM244, hM284⟩
   refine any_nil (by kernel_rfl) ?_
   refine done_block (ds_ (qa [(0, .fit)] [3, 9, 10, 11, 15, 16] [(17, .int .i64 ((i + 1 : Nat)))] ([Fit .i64 ((i + 1 : Nat))]) (al1 (fit64 (by omega) (by omega))) (Done.drop (L' := [(γ2 0, .map es284 ck244)]) ?_ (List.Sublist.cons _ (List.Sublist.cons_cons _ (List.Sublist.refl _))))))
   exact dr [3, 9, 10, 11, 15, 16, 17] (i + 1, es284, ck244) ⟨by omega, by rw [flR_in hx10 hx19, bumpR_on]; exact hM284⟩
  ·
   refine qa [(0, .no)] [3, 9, 10, 11, 15, 16, 17] [(18, .bool false)] ([¬ (((i : Nat) : Int) < ((x10.n : Nat) : Int))]) (al1 q14) (ds_ (sq_ (f_ (at_leave _ rfl (done_block (ds_ (qa [(0, .fit)] [3, 9, 10] [(11, .int .i64 ((j + 1 : Nat)))] ([Fit .i64 ((j + 1 : Nat))]) (al1 (fit64 (by omega) (by omega))) ?_)))))))
   exact dr [3, 9, 10, 11] (j + 1, es2, ck2) ⟨by omega, by rw [flR_on hx10, ← show x10.l.take i = x10.l from List.take_of_length_le (by omega)]; exact hM2⟩
 ·
  refine qa [(0, .no)] [3, 9, 10, 11] [(12, .bool false)] ([¬ (((j : Nat) : Int) < ((m : Nat) : Int))]) (al1 q5) (ds_ (sq_ (f_ (at_leave _ rfl (ds_ (sq_ (qa0 [] [] [(2, .map (some (γ2 0)))] (ds_ (rt ([]) (.map (some (γ2 0))) ?_)))))))))
  rw [flR_all (by omega), hL] at hM
  exact fun w' hw => ⟨_, _, _, rfl, hM, hw.below, hw⟩
end Go.Proofs.Ytdbamgbgnpadjaa

/-! The statement VtimerTwice, walked. -/
namespace Go.Proofs.Ytdbamgbgnpadjaa
open Go Go.RowKit

set_option maxHeartbeats 1000000 in
set_option maxRecDepth 100000 in
theorem twice_law (now : Int) (p : Option Addr) (n cap : Nat) (ts : List Tim) (pa : Option Addr) (na ca : Nat) (rs : List Alm) (x1 x2 : Int) (w : World)
 (hts : Sv w p ts) (hn : n = ts.length) (hcp : n ≤ cap) (hbg : cap ≤ 9223372036854775807)
 (hrs : Sv w pa rs) (hna : na = rs.length) (hca : na ≤ ca) (hbga : ca ≤ 9223372036854775807)
 : Calls Try.prog 3 #[.agg #[.int .i64 now, .slice p n cap, .slice pa na ca], .agg #[.int .i64 x1, .int .i64 x2]] w fun e w' => e = .returned (.bool true) ∧ Below w.heap.size w w' := by
 refine enter (Hs.start w) Try.func3 rfl Try.ntmps3 rfl (sq_ (ma0 [] [] (fun γ1 => [(2, .pointer (some ⟨γ1 0, 0, none⟩)), (3, .pointer (some ⟨γ1 1, 0, none⟩))]) (fun γ1 L => bx (γ1 1) (#[.int .i64 x1, .int .i64 x2]) 28 :: bx (γ1 0) (#[.int .i64 now, .slice p n cap, .slice pa na ca]) 27 :: L) (fun γ1 => ds_ (sq_ (sq_ (ao_ (cD (.bool true) Try.call7 (fun w hw => awakes_t w) (qo0 1 [] [2, 3] [(21, .bool false)] (on_ (ds_ (f_ (at_skip (ds_ (sq_ (ao_ (qo0 1 [(0, .go (owns 1 0 3))] [3] [(22, .agg #[.int .i64 now, .slice p n cap, .slice pa na ca])] (cP (fun v L' => ∃ q_ m_ c_ Y_ q2_ m2_ c2_ X_, v = .agg #[.int .i64 now, .slice q_ m_ c_, .slice q2_ m2_ c2_] ∧ L' = List.take 2 ([bx (γ1 1) (#[.int .i64 x1, .int .i64 x2]) 28, bx (γ1 0) (#[.int .i64 now, .slice p n cap, .slice pa na ca]) 27]) ++ (Y_ ++ (X_ ++ List.drop 2 ([bx (γ1 1) (#[.int .i64 x1, .int .i64 x2]) 28, bx (γ1 0) (#[.int .i64 now, .slice p n cap, .slice pa na ca]) 27]))) ∧ SlO 88 Y_ q_ m_ c_ (shT ts) ∧ SlO 47 X_ q2_ m2_ c2_ (shR rs)) Try.call8 (fun w hw => (short_t now p n cap ts pa na ca rs w (hts.kept hw.below) hn (by omega) (by omega) (hrs.kept hw.below) hna (by omega) (by omega)).mono fun e w' ⟨q_, m_, c_, Y_, q2_, m2_, c2_, X_, he, h1, h2, hb, hY⟩ => ⟨_, _, he, ⟨q_, m_, c_, Y_, q2_, m2_, c2_, X_, rfl, rfl, h1, h2⟩, hw.joinT hb hY 2⟩) ?_)))))))))))))))))
 rintro v5 L5 ⟨q5, m5, c5, Y5, p5, k5, d5, Yx5, rfl, rfl, hO5, hP5⟩
 have hm5 := hO5.len
 have hn5 := hP5.len
 have hsh5 := shT_len (ts := ts)
 have hsr5 := shR_len (rs := rs)
 refine mo0 2 [(3, .go (owns 0 0 3))] [3] (fun γ6 => [(5, .pointer (some ⟨γ6 0, 0, none⟩))]) (fun γ6 L => bx (γ6 0) (#[.int .i64 now, .slice q5 m5 c5, .slice p5 k5 d5]) 27 :: L) (fun γ6 => on_ (ds_ (sq_ (sq_ (ao_ (qo0 1 [(0, .go (owns 0 0 3))] [3, 5] [(24, .agg #[.int .i64 now, .slice q5 m5 c5, .slice p5 k5 d5])] ?_))))))
 rcases q8 : alB now ((shT ts)) ((shR rs)) with _ | _
 ·
  refine cD (.int .i64 280) Try.call9 (fun w hw => by have := acheck_t now q5 m5 c5 ((shT ts)) p5 k5 d5 ((shR rs)) w (hO5.atN (A := [_, _, _]) hw) hO5.len (by omega) (hP5.atN (A := (_ :: _ :: _ :: Y5)) hw) hP5.len (by omega); rw [q8] at this; exact this) (qo0 1 [] [3, 5] [(26, .bool true)] (on_ (ds_ (t_ (sq_ (qa0 [] [] [(4, .bool true)] (ds_ (rt ([]) (.bool true) ?_))))))))
  exact fun w' hw => ⟨rfl, hw.below⟩
 ·
  refine cD (.int .i64 0) Try.call9 (fun w hw => by have := acheck_t now q5 m5 c5 ((shT ts)) p5 k5 d5 ((shR rs)) w (hO5.atN (A := [_, _, _]) hw) hO5.len (by omega) (hP5.atN (A := (_ :: _ :: _ :: Y5)) hw) hP5.len (by omega); rw [q8] at this; exact this) (qo0 1 [] [3, 5] [(26, .bool false)] (on_ (ds_ (f_ (at_skip (ds_ (sq_ ?_)))))))
  have hgA := al_iff.1 q8
  have hn0 := hgA.gw.n0
  have hn1 := hgA.gw.n1
  have hl0 := hgA.gw.len
  have hl0r := hgA.rl
  have hsb1 := spV_bnd x1
  have hsb2 := spV_bnd x2
  refine qa [(2, .go (owns 0 0 1)), (4, .go (owns 1 0 1)), (6, .is [] (.int .i64 ((spV x1)))), (7, .fit)] [3, 5] [(6, .int .i64 (now + ((spV x1))))] ([Value.int .i64 (Int.tmod ((if (x1 : Int) < (0 : Int) then 0 else x1)) 1099511627776) = .int .i64 ((spV x1))] ++ ([Fit .i64 (now + ((spV x1)))])) (alA (al1 (by rw [spV_if])) (al1 (fit64 (by omega) (by omega)))) (ds_ (sq_ ?_))
  obtain ⟨one, hone⟩ : ∃ one, one = now + (spV x1) := ⟨_, rfl⟩
  rw [← hone]
  refine qa [(2, .go (owns 1 1 1)), (4, .is [] (.int .i64 ((spV x2)))), (5, .fit)] [5, 6] [(7, .int .i64 (one + ((spV x2))))] ([Value.int .i64 (Int.tmod ((if (x2 : Int) < (0 : Int) then 0 else x2)) 1099511627776) = .int .i64 ((spV x2))] ++ ([Fit .i64 (one + ((spV x2)))])) (alA (al1 (by rw [spV_if])) (al1 (fit64 (by omega) (by omega)))) (ds_ (sq_ ?_))
  obtain ⟨two, htwo⟩ : ∃ two, two = one + (spV x2) := ⟨_, rfl⟩
  rw [← htwo]
  rcases q14 : decide (now ≤ two ∧ two ≤ 1125899906842624) with _ | _
  ·
   rcases q15 : decide (now ≤ one ∧ one ≤ 1125899906842624) with _ | _
   ·
    have hs2 := of_decide_eq_false q14
    refine ao_ (qo0 2 [(0, .go (owns 0 0 3))] [5, 7] [(42, .agg #[.int .i64 now, .slice q5 m5 c5, .slice p5 k5 d5]), (43, .int .i64 one)] (cP (fun v L' => ∃ q_ m_ c_ Y_ q2_ m2_ c2_ X_ q3_ m3_ c3_ Z_, v = .tuple #[.agg #[.int .i64 0, .slice q_ m_ c_, .slice q2_ m2_ c2_], .slice q3_ m3_ c3_, .int .i64 2] ∧ L' = List.take 3 (bx (γ6 0) (#[.int .i64 now, .slice q5 m5 c5, .slice p5 k5 d5]) 27 :: bx (γ1 1) (#[.int .i64 x1, .int .i64 x2]) 28 :: bx (γ1 0) (#[.int .i64 now, .slice p n cap, .slice pa na ca]) 27 :: (Y5 ++ (Yx5 ++ []))) ++ (Y_ ++ (X_ ++ (Z_ ++ List.drop 3 (bx (γ6 0) (#[.int .i64 now, .slice q5 m5 c5, .slice p5 k5 d5]) 27 :: bx (γ1 1) (#[.int .i64 x1, .int .i64 x2]) 28 :: bx (γ1 0) (#[.int .i64 now, .slice p n cap, .slice pa na ca]) 27 :: (Y5 ++ (Yx5 ++ [])))))) ∧ SlO 88 Y_ q_ m_ c_ ([] : List Tim) ∧ SlO 47 X_ q2_ m2_ c2_ ([] : List Alm) ∧ SlO 44 Z_ q3_ m3_ c3_ ([] : List Rng)) Try.call10 (fun w hw => by have := apass_t now q5 m5 c5 ((shT ts)) p5 k5 d5 ((shR rs)) one w (hO5.atN (A := [_, _, _]) hw) hO5.len (by omega) (hP5.atN (A := (_ :: _ :: _ :: Y5)) hw) hP5.len (by omega); rw [passA_arg q8 (of_decide_eq_false q15), passR_arg (of_decide_eq_false q15)] at this; exact this.mono fun e w' ⟨q_, m_, c_, Y_, q2_, m2_, c2_, X_, q3_, m3_, c3_, Z_, he, h1, h2, h3, hb, hY⟩ => ⟨_, _, he, ⟨q_, m_, c_, Y_, q2_, m2_, c2_, X_, q3_, m3_, c3_, Z_, rfl, rfl, h1, h2, h3⟩, hw.joinZ hb hY 3⟩) ?_))
    rintro v17 L17 ⟨q17, m17, c17, Y17, p17, k17, d17, Yx17, pz17, kz17, dz17, Yz17, rfl, rfl, hO17, hP17, hZ17⟩
    have hm17 := hO17.len
    have hn17 := hP17.len
    have hz17 := hZ17.len
    simp only [List.length_cons, List.length_nil] at hm17
    simp only [List.length_cons, List.length_nil] at hn17
    simp only [List.length_cons, List.length_nil] at hz17
    refine mo0 8 [(8, .go (owns 0 0 3))] [5, 7] (fun γ18 => [(8, .pointer (some ⟨γ18 0, 0, none⟩)), (9, .slice pz17 kz17 dz17), (10, .int .i64 2)]) (fun γ18 L => bx (γ18 0) (#[.int .i64 0, .slice q17 m17 c17, .slice p17 k17 d17]) 27 :: L) (fun γ18 => on_ (ds_ (sq_ (ao_ (qo0 2 [(0, .go (owns 1 0 3))] [7, 8, 9, 10] [(49, .agg #[.int .i64 now, .slice q5 m5 c5, .slice p5 k5 d5]), (50, .int .i64 two)] (cP (fun v L' => ∃ q_ m_ c_ Y_ q2_ m2_ c2_ X_ q3_ m3_ c3_ Z_, v = .tuple #[.agg #[.int .i64 0, .slice q_ m_ c_, .slice q2_ m2_ c2_], .slice q3_ m3_ c3_, .int .i64 2] ∧ L' = List.take 4 (bx (γ18 0) (#[.int .i64 0, .slice q17 m17 c17, .slice p17 k17 d17]) 27 :: bx (γ6 0) (#[.int .i64 now, .slice q5 m5 c5, .slice p5 k5 d5]) 27 :: bx (γ1 1) (#[.int .i64 x1, .int .i64 x2]) 28 :: bx (γ1 0) (#[.int .i64 now, .slice p n cap, .slice pa na ca]) 27 :: (Y17 ++ (Yx17 ++ (Yz17 ++ (Y5 ++ (Yx5 ++ [])))))) ++ (Y_ ++ (X_ ++ (Z_ ++ List.drop 4 (bx (γ18 0) (#[.int .i64 0, .slice q17 m17 c17, .slice p17 k17 d17]) 27 :: bx (γ6 0) (#[.int .i64 now, .slice q5 m5 c5, .slice p5 k5 d5]) 27 :: bx (γ1 1) (#[.int .i64 x1, .int .i64 x2]) 28 :: bx (γ1 0) (#[.int .i64 now, .slice p n cap, .slice pa na ca]) 27 :: (Y17 ++ (Yx17 ++ (Yz17 ++ (Y5 ++ (Yx5 ++ []))))))))) ∧ SlO 88 Y_ q_ m_ c_ ([] : List Tim) ∧ SlO 47 X_ q2_ m2_ c2_ ([] : List Alm) ∧ SlO 44 Z_ q3_ m3_ c3_ ([] : List Rng)) Try.call10 (fun w hw => by have := apass_t now q5 m5 c5 ((shT ts)) p5 k5 d5 ((shR rs)) two w (hO5.at ((hw.tailN 4).sub (((List.sublist_append_right Yz17 _).trans (List.sublist_append_right Yx17 _)).trans (List.sublist_append_right Y17 _)))) hO5.len (by omega) (hP5.at ((hw.tailN 4).sub ((((List.sublist_append_right Y5 _).trans (List.sublist_append_right Yz17 _)).trans (List.sublist_append_right Yx17 _)).trans (List.sublist_append_right Y17 _)))) hP5.len (by omega); rw [passA_arg q8 (of_decide_eq_false q14), passR_arg (of_decide_eq_false q14)] at this; exact this.mono fun e w' ⟨q_, m_, c_, Y_, q2_, m2_, c2_, X_, q3_, m3_, c3_, Z_, he, h1, h2, h3, hb, hY⟩ => ⟨_, _, he, ⟨q_, m_, c_, Y_, q2_, m2_, c2_, X_, q3_, m3_, c3_, Z_, rfl, rfl, h1, h2, h3⟩, hw.joinZ hb hY 4⟩) ?_))))))
    rintro v20 L20 ⟨q20, m20, c20, Y20, p20, k20, d20, Yx20, pz20, kz20, dz20, Yz20, rfl, rfl, hO20, hP20, hZ20⟩
    have hm20 := hO20.len
    have hn20 := hP20.len
    have hz20 := hZ20.len
    simp only [List.length_cons, List.length_nil] at hm20
    simp only [List.length_cons, List.length_nil] at hn20
    simp only [List.length_cons, List.length_nil] at hz20
    refine mo0 8 [(8, .go (owns 0 0 3))] [7, 8, 9, 10] (fun γ21 => [(11, .pointer (some ⟨γ21 0, 0, none⟩)), (12, .slice pz20 kz20 dz20), (13, .int .i64 2)]) (fun γ21 L => bx (γ21 0) (#[.int .i64 0, .slice q20 m20 c20, .slice p20 k20 d20]) 27 :: L) (fun γ21 => on_ (ds_ (sq_ (sq_ (qa0 [] [7, 8, 9, 10, 11, 12, 13] [(56, .bool true)] (ds_ (t_ (sq_ ?_))))))))
    by_cases q24 : (two : Int) > (1125899906842624 : Int)
    ·
     refine qa [(4, .yes)] [] [(4, .bool true)] ([(two : Int) > (1125899906842624 : Int)]) (al1 q24) (ds_ (rt ([]) (.bool true) ?_))
     exact fun w' hw => ⟨rfl, hw.below⟩
    ·
     refine qa [(4, .no)] [] [(4, .bool false)] ([¬ ((two : Int) > (1125899906842624 : Int))]) (al1 q24) (ds_ (rt ([]) (.bool false) ?_))
     exfalso
     first | omega | simp_all
   ·
    have hs2 := of_decide_eq_false q14
    refine ao_ (qo0 2 [(0, .go (owns 0 0 3))] [5, 7] [(42, .agg #[.int .i64 now, .slice q5 m5 c5, .slice p5 k5 d5]), (43, .int .i64 one)] (cP (fun v L' => ∃ q_ m_ c_ Y_ q2_ m2_ c2_ X_ q3_ m3_ c3_ Z_, v = .tuple #[.agg #[.int .i64 one, .slice q_ m_ c_, .slice q2_ m2_ c2_], .slice q3_ m3_ c3_, .int .i64 0] ∧ L' = List.take 3 (bx (γ6 0) (#[.int .i64 now, .slice q5 m5 c5, .slice p5 k5 d5]) 27 :: bx (γ1 1) (#[.int .i64 x1, .int .i64 x2]) 28 :: bx (γ1 0) (#[.int .i64 now, .slice p n cap, .slice pa na ca]) 27 :: (Y5 ++ (Yx5 ++ []))) ++ (Y_ ++ (X_ ++ (Z_ ++ List.drop 3 (bx (γ6 0) (#[.int .i64 now, .slice q5 m5 c5, .slice p5 k5 d5]) 27 :: bx (γ1 1) (#[.int .i64 x1, .int .i64 x2]) 28 :: bx (γ1 0) (#[.int .i64 now, .slice p n cap, .slice pa na ca]) 27 :: (Y5 ++ (Yx5 ++ [])))))) ∧ SlO 88 Y_ q_ m_ c_ ((ringsV one (shT ts) (shR rs)).1) ∧ SlO 47 X_ q2_ m2_ c2_ ((ringsV one (shT ts) (shR rs)).2.1) ∧ SlO 44 Z_ q3_ m3_ c3_ ((ringsV one (shT ts) (shR rs)).2.2)) Try.call10 (fun w hw => by have := apass_t now q5 m5 c5 ((shT ts)) p5 k5 d5 ((shR rs)) one w (hO5.atN (A := [_, _, _]) hw) hO5.len (by omega) (hP5.atN (A := (_ :: _ :: _ :: Y5)) hw) hP5.len (by omega); rw [passA_ok q8 (of_decide_eq_true q15), passR_ok q8 (of_decide_eq_true q15)] at this; exact this.mono fun e w' ⟨q_, m_, c_, Y_, q2_, m2_, c2_, X_, q3_, m3_, c3_, Z_, he, h1, h2, h3, hb, hY⟩ => ⟨_, _, he, ⟨q_, m_, c_, Y_, q2_, m2_, c2_, X_, q3_, m3_, c3_, Z_, rfl, rfl, h1, h2, h3⟩, hw.joinZ hb hY 3⟩) ?_))
    rintro v28 L28 ⟨q28, m28, c28, Y28, p28, k28, d28, Yx28, pz28, kz28, dz28, Yz28, rfl, rfl, hO28, hP28, hZ28⟩
    have hm28 := hO28.len
    have hn28 := hP28.len
    have hz28 := hZ28.len
    refine mo0 8 [(8, .go (owns 0 0 3))] [5, 7] (fun γ29 => [(8, .pointer (some ⟨γ29 0, 0, none⟩)), (9, .slice pz28 kz28 dz28), (10, .int .i64 0)]) (fun γ29 L => bx (γ29 0) (#[.int .i64 one, .slice q28 m28 c28, .slice p28 k28 d28]) 27 :: L) (fun γ29 => on_ (ds_ (sq_ (ao_ (qo0 2 [(0, .go (owns 1 0 3))] [7, 8, 9, 10] [(49, .agg #[.int .i64 now, .slice q5 m5 c5, .slice p5 k5 d5]), (50, .int .i64 two)] (cP (fun v L' => ∃ q_ m_ c_ Y_ q2_ m2_ c2_ X_ q3_ m3_ c3_ Z_, v = .tuple #[.agg #[.int .i64 0, .slice q_ m_ c_, .slice q2_ m2_ c2_], .slice q3_ m3_ c3_, .int .i64 2] ∧ L' = List.take 4 (bx (γ29 0) (#[.int .i64 one, .slice q28 m28 c28, .slice p28 k28 d28]) 27 :: bx (γ6 0) (#[.int .i64 now, .slice q5 m5 c5, .slice p5 k5 d5]) 27 :: bx (γ1 1) (#[.int .i64 x1, .int .i64 x2]) 28 :: bx (γ1 0) (#[.int .i64 now, .slice p n cap, .slice pa na ca]) 27 :: (Y28 ++ (Yx28 ++ (Yz28 ++ (Y5 ++ (Yx5 ++ [])))))) ++ (Y_ ++ (X_ ++ (Z_ ++ List.drop 4 (bx (γ29 0) (#[.int .i64 one, .slice q28 m28 c28, .slice p28 k28 d28]) 27 :: bx (γ6 0) (#[.int .i64 now, .slice q5 m5 c5, .slice p5 k5 d5]) 27 :: bx (γ1 1) (#[.int .i64 x1, .int .i64 x2]) 28 :: bx (γ1 0) (#[.int .i64 now, .slice p n cap, .slice pa na ca]) 27 :: (Y28 ++ (Yx28 ++ (Yz28 ++ (Y5 ++ (Yx5 ++ []))))))))) ∧ SlO 88 Y_ q_ m_ c_ ([] : List Tim) ∧ SlO 47 X_ q2_ m2_ c2_ ([] : List Alm) ∧ SlO 44 Z_ q3_ m3_ c3_ ([] : List Rng)) Try.call10 (fun w hw => by have := apass_t now q5 m5 c5 ((shT ts)) p5 k5 d5 ((shR rs)) two w (hO5.at ((hw.tailN 4).sub (((List.sublist_append_right Yz28 _).trans (List.sublist_append_right Yx28 _)).trans (List.sublist_append_right Y28 _)))) hO5.len (by omega) (hP5.at ((hw.tailN 4).sub ((((List.sublist_append_right Y5 _).trans (List.sublist_append_right Yz28 _)).trans (List.sublist_append_right Yx28 _)).trans (List.sublist_append_right Y28 _)))) hP5.len (by omega); rw [passA_arg q8 (of_decide_eq_false q14), passR_arg (of_decide_eq_false q14)] at this; exact this.mono fun e w' ⟨q_, m_, c_, Y_, q2_, m2_, c2_, X_, q3_, m3_, c3_, Z_, he, h1, h2, h3, hb, hY⟩ => ⟨_, _, he, ⟨q_, m_, c_, Y_, q2_, m2_, c2_, X_, q3_, m3_, c3_, Z_, rfl, rfl, h1, h2, h3⟩, hw.joinZ hb hY 4⟩) ?_))))))
    rintro v31 L31 ⟨q31, m31, c31, Y31, p31, k31, d31, Yx31, pz31, kz31, dz31, Yz31, rfl, rfl, hO31, hP31, hZ31⟩
    have hm31 := hO31.len
    have hn31 := hP31.len
    have hz31 := hZ31.len
    simp only [List.length_cons, List.length_nil] at hm31
    simp only [List.length_cons, List.length_nil] at hn31
    simp only [List.length_cons, List.length_nil] at hz31
    refine mo0 8 [(8, .go (owns 0 0 3))] [7, 8, 9, 10] (fun γ32 => [(11, .pointer (some ⟨γ32 0, 0, none⟩)), (12, .slice pz31 kz31 dz31), (13, .int .i64 2)]) (fun γ32 L => bx (γ32 0) (#[.int .i64 0, .slice q31 m31 c31, .slice p31 k31 d31]) 27 :: L) (fun γ32 => on_ (ds_ (sq_ (sq_ (qa0 [] [7, 8, 9, 10, 11, 12, 13] [(56, .bool true)] (ds_ (t_ (sq_ ?_))))))))
    by_cases q35 : (two : Int) > (1125899906842624 : Int)
    ·
     refine qa [(4, .yes)] [] [(4, .bool true)] ([(two : Int) > (1125899906842624 : Int)]) (al1 q35) (ds_ (rt ([]) (.bool true) ?_))
     exact fun w' hw => ⟨rfl, hw.below⟩
    ·
     refine qa [(4, .no)] [] [(4, .bool false)] ([¬ ((two : Int) > (1125899906842624 : Int))]) (al1 q35) (ds_ (rt ([]) (.bool false) ?_))
     exfalso
     first | omega | simp_all
  ·
   have hs2 := of_decide_eq_true q14
   have hs1 : decide (now ≤ one ∧ one ≤ 1125899906842624) = true := decide_eq_true (by omega)
   have h12 : one ≤ two := by omega
   have h1n : now ≤ one := by omega
   have hg1 := al_iff.2 (after_good hgA h1n (Int.le_trans h12 hs2.2))
   have hg2 := al_iff.2 (after_good hgA hs2.1 hs2.2)
   have hl1 := (al_iff.1 hg1).gw.len
   have hl1r := (al_iff.1 hg1).rl
   have hl2 := (al_iff.1 hg2).gw.len
   have hl2r := (al_iff.1 hg2).rl
   have hrl1 := rings_len hgA h1n (Int.le_trans h12 hs2.2)
   have hrl2 := rings_len hgA hs2.1 hs2.2
   have hrl3 := rings_len (al_iff.1 hg1) h12 hs2.2
   refine ao_ (qo0 2 [(0, .go (owns 0 0 3))] [5, 7] [(42, .agg #[.int .i64 now, .slice q5 m5 c5, .slice p5 k5 d5]), (43, .int .i64 one)] (cP (fun v L' => ∃ q_ m_ c_ Y_ q2_ m2_ c2_ X_ q3_ m3_ c3_ Z_, v = .tuple #[.agg #[.int .i64 one, .slice q_ m_ c_, .slice q2_ m2_ c2_], .slice q3_ m3_ c3_, .int .i64 0] ∧ L' = List.take 3 (bx (γ6 0) (#[.int .i64 now, .slice q5 m5 c5, .slice p5 k5 d5]) 27 :: bx (γ1 1) (#[.int .i64 x1, .int .i64 x2]) 28 :: bx (γ1 0) (#[.int .i64 now, .slice p n cap, .slice pa na ca]) 27 :: (Y5 ++ (Yx5 ++ []))) ++ (Y_ ++ (X_ ++ (Z_ ++ List.drop 3 (bx (γ6 0) (#[.int .i64 now, .slice q5 m5 c5, .slice p5 k5 d5]) 27 :: bx (γ1 1) (#[.int .i64 x1, .int .i64 x2]) 28 :: bx (γ1 0) (#[.int .i64 now, .slice p n cap, .slice pa na ca]) 27 :: (Y5 ++ (Yx5 ++ [])))))) ∧ SlO 88 Y_ q_ m_ c_ ((ringsV one (shT ts) (shR rs)).1) ∧ SlO 47 X_ q2_ m2_ c2_ ((ringsV one (shT ts) (shR rs)).2.1) ∧ SlO 44 Z_ q3_ m3_ c3_ ((ringsV one (shT ts) (shR rs)).2.2)) Try.call10 (fun w hw => by have := apass_t now q5 m5 c5 ((shT ts)) p5 k5 d5 ((shR rs)) one w (hO5.atN (A := [_, _, _]) hw) hO5.len (by omega) (hP5.atN (A := (_ :: _ :: _ :: Y5)) hw) hP5.len (by omega); rw [passA_ok q8 (of_decide_eq_true hs1), passR_ok q8 (of_decide_eq_true hs1)] at this; exact this.mono fun e w' ⟨q_, m_, c_, Y_, q2_, m2_, c2_, X_, q3_, m3_, c3_, Z_, he, h1, h2, h3, hb, hY⟩ => ⟨_, _, he, ⟨q_, m_, c_, Y_, q2_, m2_, c2_, X_, q3_, m3_, c3_, Z_, rfl, rfl, h1, h2, h3⟩, hw.joinZ hb hY 3⟩) ?_))
   rintro v39 L39 ⟨q39, m39, c39, Y39, p39, k39, d39, Yx39, pz39, kz39, dz39, Yz39, rfl, rfl, hO39, hP39, hZ39⟩
   have hm39 := hO39.len
   have hn39 := hP39.len
   have hz39 := hZ39.len
   refine mo0 8 [(8, .go (owns 0 0 3))] [5, 7] (fun γ40 => [(8, .pointer (some ⟨γ40 0, 0, none⟩)), (9, .slice pz39 kz39 dz39), (10, .int .i64 0)]) (fun γ40 L => bx (γ40 0) (#[.int .i64 one, .slice q39 m39 c39, .slice p39 k39 d39]) 27 :: L) (fun γ40 => on_ (ds_ (sq_ (ao_ (qo0 2 [(0, .go (owns 1 0 3))] [7, 8, 9, 10] [(49, .agg #[.int .i64 now, .slice q5 m5 c5, .slice p5 k5 d5]), (50, .int .i64 two)] (cP (fun v L' => ∃ q_ m_ c_ Y_ q2_ m2_ c2_ X_ q3_ m3_ c3_ Z_, v = .tuple #[.agg #[.int .i64 two, .slice q_ m_ c_, .slice q2_ m2_ c2_], .slice q3_ m3_ c3_, .int .i64 0] ∧ L' = List.take 4 (bx (γ40 0) (#[.int .i64 one, .slice q39 m39 c39, .slice p39 k39 d39]) 27 :: bx (γ6 0) (#[.int .i64 now, .slice q5 m5 c5, .slice p5 k5 d5]) 27 :: bx (γ1 1) (#[.int .i64 x1, .int .i64 x2]) 28 :: bx (γ1 0) (#[.int .i64 now, .slice p n cap, .slice pa na ca]) 27 :: (Y39 ++ (Yx39 ++ (Yz39 ++ (Y5 ++ (Yx5 ++ [])))))) ++ (Y_ ++ (X_ ++ (Z_ ++ List.drop 4 (bx (γ40 0) (#[.int .i64 one, .slice q39 m39 c39, .slice p39 k39 d39]) 27 :: bx (γ6 0) (#[.int .i64 now, .slice q5 m5 c5, .slice p5 k5 d5]) 27 :: bx (γ1 1) (#[.int .i64 x1, .int .i64 x2]) 28 :: bx (γ1 0) (#[.int .i64 now, .slice p n cap, .slice pa na ca]) 27 :: (Y39 ++ (Yx39 ++ (Yz39 ++ (Y5 ++ (Yx5 ++ []))))))))) ∧ SlO 88 Y_ q_ m_ c_ ((ringsV two (shT ts) (shR rs)).1) ∧ SlO 47 X_ q2_ m2_ c2_ ((ringsV two (shT ts) (shR rs)).2.1) ∧ SlO 44 Z_ q3_ m3_ c3_ ((ringsV two (shT ts) (shR rs)).2.2)) Try.call10 (fun w hw => by have := apass_t now q5 m5 c5 ((shT ts)) p5 k5 d5 ((shR rs)) two w (hO5.at ((hw.tailN 4).sub (((List.sublist_append_right Yz39 _).trans (List.sublist_append_right Yx39 _)).trans (List.sublist_append_right Y39 _)))) hO5.len (by omega) (hP5.at ((hw.tailN 4).sub ((((List.sublist_append_right Y5 _).trans (List.sublist_append_right Yz39 _)).trans (List.sublist_append_right Yx39 _)).trans (List.sublist_append_right Y39 _)))) hP5.len (by omega); rw [passA_ok q8 (of_decide_eq_true q14), passR_ok q8 (of_decide_eq_true q14)] at this; exact this.mono fun e w' ⟨q_, m_, c_, Y_, q2_, m2_, c2_, X_, q3_, m3_, c3_, Z_, he, h1, h2, h3, hb, hY⟩ => ⟨_, _, he, ⟨q_, m_, c_, Y_, q2_, m2_, c2_, X_, q3_, m3_, c3_, Z_, rfl, rfl, h1, h2, h3⟩, hw.joinZ hb hY 4⟩) ?_))))))
   rintro v42 L42 ⟨q42, m42, c42, Y42, p42, k42, d42, Yx42, pz42, kz42, dz42, Yz42, rfl, rfl, hO42, hP42, hZ42⟩
   have hm42 := hO42.len
   have hn42 := hP42.len
   have hz42 := hZ42.len
   refine mo0 8 [(8, .go (owns 0 0 3))] [7, 8, 9, 10] (fun γ43 => [(11, .pointer (some ⟨γ43 0, 0, none⟩)), (12, .slice pz42 kz42 dz42), (13, .int .i64 0)]) (fun γ43 L => bx (γ43 0) (#[.int .i64 two, .slice q42 m42 c42, .slice p42 k42 d42]) 27 :: L) (fun γ43 => on_ (ds_ (sq_ (sq_ (qa0 [] [7, 8, 9, 10, 11, 12, 13] [(56, .bool false)] (ds_ (f_ (at_skip (ds_ (sq_ ?_))))))))))
   have hsame := twice_same hgA h1n h12 hs2.2
   refine ao_ (qo0 2 [(0, .go (owns 1 0 3))] [9, 10, 11, 12] [(64, .agg #[.int .i64 one, .slice q39 m39 c39, .slice p39 k39 d39]), (65, .int .i64 two)] (cP (fun v L' => ∃ q_ m_ c_ Y_ q2_ m2_ c2_ X_ q3_ m3_ c3_ Z_, v = .tuple #[.agg #[.int .i64 two, .slice q_ m_ c_, .slice q2_ m2_ c2_], .slice q3_ m3_ c3_, .int .i64 0] ∧ L' = List.take 5 (bx (γ43 0) (#[.int .i64 two, .slice q42 m42 c42, .slice p42 k42 d42]) 27 :: bx (γ40 0) (#[.int .i64 one, .slice q39 m39 c39, .slice p39 k39 d39]) 27 :: bx (γ6 0) (#[.int .i64 now, .slice q5 m5 c5, .slice p5 k5 d5]) 27 :: bx (γ1 1) (#[.int .i64 x1, .int .i64 x2]) 28 :: bx (γ1 0) (#[.int .i64 now, .slice p n cap, .slice pa na ca]) 27 :: (Y42 ++ (Yx42 ++ (Yz42 ++ (Y39 ++ (Yx39 ++ (Yz39 ++ (Y5 ++ (Yx5 ++ []))))))))) ++ (Y_ ++ (X_ ++ (Z_ ++ List.drop 5 (bx (γ43 0) (#[.int .i64 two, .slice q42 m42 c42, .slice p42 k42 d42]) 27 :: bx (γ40 0) (#[.int .i64 one, .slice q39 m39 c39, .slice p39 k39 d39]) 27 :: bx (γ6 0) (#[.int .i64 now, .slice q5 m5 c5, .slice p5 k5 d5]) 27 :: bx (γ1 1) (#[.int .i64 x1, .int .i64 x2]) 28 :: bx (γ1 0) (#[.int .i64 now, .slice p n cap, .slice pa na ca]) 27 :: (Y42 ++ (Yx42 ++ (Yz42 ++ (Y39 ++ (Yx39 ++ (Yz39 ++ (Y5 ++ (Yx5 ++ [])))))))))))) ∧ SlO 88 Y_ q_ m_ c_ ((ringsV two (ringsV one (shT ts) (shR rs)).1 (ringsV one (shT ts) (shR rs)).2.1).1) ∧ SlO 47 X_ q2_ m2_ c2_ ((ringsV two (ringsV one (shT ts) (shR rs)).1 (ringsV one (shT ts) (shR rs)).2.1).2.1) ∧ SlO 44 Z_ q3_ m3_ c3_ ((ringsV two (ringsV one (shT ts) (shR rs)).1 (ringsV one (shT ts) (shR rs)).2.1).2.2)) Try.call10 (fun w hw => by have := apass_t one q39 m39 c39 (((ringsV one (shT ts) (shR rs)).1)) p39 k39 d39 (((ringsV one (shT ts) (shR rs)).2.1)) two w (hO39.at ((hw.tailN 5).sub (((List.sublist_append_right Yz42 _).trans (List.sublist_append_right Yx42 _)).trans (List.sublist_append_right Y42 _)))) hO39.len (by omega) (hP39.at ((hw.tailN 5).sub ((((List.sublist_append_right Y39 _).trans (List.sublist_append_right Yz42 _)).trans (List.sublist_append_right Yx42 _)).trans (List.sublist_append_right Y42 _)))) hP39.len (by omega); rw [passA_ok hg1 ⟨h12, hs2.2⟩, passR_ok hg1 ⟨h12, hs2.2⟩] at this; exact this.mono fun e w' ⟨q_, m_, c_, Y_, q2_, m2_, c2_, X_, q3_, m3_, c3_, Z_, he, h1, h2, h3, hb, hY⟩ => ⟨_, _, he, ⟨q_, m_, c_, Y_, q2_, m2_, c2_, X_, q3_, m3_, c3_, Z_, rfl, rfl, h1, h2, h3⟩, hw.joinZ hb hY 5⟩) ?_))
   rintro v46 L46 ⟨q46, m46, c46, Y46, p46, k46, d46, Yx46, pz46, kz46, dz46, Yz46, rfl, rfl, hO46, hP46, hZ46⟩
   have hm46 := hO46.len
   have hn46 := hP46.len
   have hz46 := hZ46.len
   refine mo0 8 [(8, .go (owns 0 0 3))] [9, 10, 11, 12] (fun γ47 => [(14, .pointer (some ⟨γ47 0, 0, none⟩)), (15, .slice pz46 kz46 dz46), (16, .int .i64 0)]) (fun γ47 L => bx (γ47 0) (#[.int .i64 two, .slice q46 m46 c46, .slice p46 k46 d46]) 27 :: L) (fun γ47 => on_ (ds_ (sq_ (sq_ ?_))))
   have hl3 : ((ringsV two (ringsV one (shT ts) (shR rs)).1 (ringsV one (shT ts) (shR rs)).2.1).1).length = ((ringsV two (shT ts) (shR rs)).1).length := by rw [hsame.1]
   have hl3r : ((ringsV two (ringsV one (shT ts) (shR rs)).1 (ringsV one (shT ts) (shR rs)).2.1).2.1).length = ((ringsV two (shT ts) (shR rs)).2.1).length := by rw [hsame.2]
   refine ao_ (qo0 9 [(7, .go (owns 0 0 3)), (8, .go (owns 1 0 3))] [9, 11, 12, 15] [(76, .bool false), (77, .agg #[.int .i64 two, .slice q46 m46 c46, .slice p46 k46 d46]), (78, .agg #[.int .i64 two, .slice q42 m42 c42, .slice p42 k42 d42])] (cD (.bool true) Try.call11 (fun w hw => by have := asame_t two q46 m46 c46 (((ringsV two (ringsV one (shT ts) (shR rs)).1 (ringsV one (shT ts) (shR rs)).2.1).1)) p46 k46 d46 (((ringsV two (ringsV one (shT ts) (shR rs)).1 (ringsV one (shT ts) (shR rs)).2.1).2.1)) two q42 m42 c42 (((ringsV two (shT ts) (shR rs)).1)) p42 k42 d42 (((ringsV two (shT ts) (shR rs)).2.1)) w (hO46.atN (A := [_, _, _, _, _, _]) hw) hO46.len (by omega) (hP46.atN (A := (_ :: _ :: _ :: _ :: _ :: _ :: Y46)) hw) hP46.len (by omega) (hO42.at ((hw.tailN 6).sub (((List.sublist_append_right Yz46 _).trans (List.sublist_append_right Yx46 _)).trans (List.sublist_append_right Y46 _)))) hO42.len (by omega) (hP42.at ((hw.tailN 6).sub ((((List.sublist_append_right Y42 _).trans (List.sublist_append_right Yz46 _)).trans (List.sublist_append_right Yx46 _)).trans (List.sublist_append_right Y46 _)))) hP42.len (by omega); rw [hsame.1, hsame.2, sameA_refl] at this; exact this) (qo0 4 [(13, .go (owns 1 0 3))] [9, 12, 15] [(82, .bool false), (83, .agg #[.int .i64 two, .slice q42 m42 c42, .slice p42 k42 d42])] (cD (.int .i64 0) Try.call9 (fun w hw => by have := acheck_t two q42 m42 c42 (((ringsV two (shT ts) (shR rs)).1)) p42 k42 d42 (((ringsV two (shT ts) (shR rs)).2.1)) w (hO42.at ((hw.tailN 6).sub (((List.sublist_append_right Yz46 _).trans (List.sublist_append_right Yx46 _)).trans (List.sublist_append_right Y46 _)))) hO42.len (by omega) (hP42.at ((hw.tailN 6).sub ((((List.sublist_append_right Y42 _).trans (List.sublist_append_right Yz46 _)).trans (List.sublist_append_right Yx46 _)).trans (List.sublist_append_right Y46 _)))) hP42.len (by omega); rw [hg2] at this; exact this) (qo0 2 [] [9, 12, 15] [(86, .bool false)] (on_ (ds_ (f_ (at_skip (ds_ (sq_ ?_)))))))))))
   have hk1 := rings_ok hgA h1n (Int.le_trans h12 hs2.2)
   have hk2 := rings_ok hgA hs2.1 hs2.2
   have hk3 := rings_ok (al_iff.1 hg1) h12 hs2.2
   have hcn := twice_cnt hgA h1n h12 hs2.2
   refine ao_ (mo0 3 [] [12] (fun γ51 => [(89, .slice (some ⟨γ51 0, 0, none⟩) 2 2)]) (fun γ51 L => bx (γ51 0) (#[.slice pz39 kz39 dz39, .slice pz46 kz46 dz46]) 33 :: L) (fun γ51 => cN 7 (fun v Y => ∃ g_ es_ ck_, v = .map (some g_) ∧ Y = [(g_, .map es_ ck_)] ∧ MapKT twoG twoK (Value.int .i64) es_ ck_ (bumpR ((((ringsV one (shT ts) (shR rs)).2.2)) ++ (((ringsV two (ringsV one (shT ts) (shR rs)).1 (ringsV one (shT ts) (shR rs)).2.1).2.2))))) Try.call12 (fun w hw => (counts_t (some ⟨γ51 0, 0, none⟩) 2 2 [(⟨pz39, kz39, dz39, ((ringsV one (shT ts) (shR rs)).2.2)⟩ : RngsA), (⟨pz46, kz46, dz46, ((ringsV two (ringsV one (shT ts) (shR rs)).1 (ringsV one (shT ts) (shR rs)).2.1).2.2)⟩ : RngsA)] ((((ringsV one (shT ts) (shR rs)).2.2)) ++ (((ringsV two (ringsV one (shT ts) (shR rs)).1 (ringsV one (shT ts) (shR rs)).2.1).2.2))) w (sv_row (hw.row 0 rfl) (by rfl)) rfl (by decide) (by simp) (fun x hx => by simp only [List.mem_cons, List.mem_singleton, List.not_mem_nil, or_false] at hx; exact hx.elim (fun e => by subst e; exact ⟨(hZ39.at ((hw.tailN 7).sub ((((((((List.sublist_append_right Yx39 _).trans (List.sublist_append_right Y39 _)).trans (List.sublist_append_right Yz42 _)).trans (List.sublist_append_right Yx42 _)).trans (List.sublist_append_right Y42 _)).trans (List.sublist_append_right Yz46 _)).trans (List.sublist_append_right Yx46 _)).trans (List.sublist_append_right Y46 _)))), hZ39.len, (show kz39 ≤ 100 from by omega), hk1⟩) (fun e => by subst e; exact ⟨(hZ46.at ((hw.tailN 7).sub ((List.sublist_append_right Yx46 _).trans (List.sublist_append_right Y46 _)))), hZ46.len, (show kz46 ≤ 100 from by omega), hk3⟩))).mono fun e w' ⟨g_, es_, ck_, he, hM, hb, hY⟩ => ⟨_, _, he, ⟨g_, es_, ck_, rfl, rfl, hM⟩, hb, hY⟩) ?_))
   rintro v52 Y52 ⟨g52, es52, ck52, rfl, rfl, hM52⟩
   refine Ops.pick [[bx (γ51 0) (#[.slice pz39 kz39 dz39, .slice pz46 kz46 dz46]) 33], [bx (γ47 0) (#[.int .i64 two, .slice q46 m46 c46, .slice p46 k46 d46]) 27], [bx (γ43 0) (#[.int .i64 two, .slice q42 m42 c42, .slice p42 k42 d42]) 27], [bx (γ40 0) (#[.int .i64 one, .slice q39 m39 c39, .slice p39 k39 d39]) 27], [bx (γ6 0) (#[.int .i64 now, .slice q5 m5 c5, .slice p5 k5 d5]) 27], [bx (γ1 1) (#[.int .i64 x1, .int .i64 x2]) 28], [bx (γ1 0) (#[.int .i64 now, .slice p n cap, .slice pa na ca]) 27], [(g52, .map es52 ck52)], Y46, Yx46, Yz46, Y42, Yx42, Yz42, Y39, Yx39, Yz39, Y5, Yx5] [7, 0, 1, 2, 3, 4, 5, 6, 8, 9, 10, 11, 12, 13, 14, 15, 16, 17, 18] [] ((g52, .map es52 ck52) :: bx (γ51 0) (#[.slice pz39 kz39 dz39, .slice pz46 kz46 dz46]) 33 :: bx (γ47 0) (#[.int .i64 two, .slice q46 m46 c46, .slice p46 k46 d46]) 27 :: bx (γ43 0) (#[.int .i64 two, .slice q42 m42 c42, .slice p42 k42 d42]) 27 :: bx (γ40 0) (#[.int .i64 one, .slice q39 m39 c39, .slice p39 k39 d39]) 27 :: bx (γ6 0) (#[.int .i64 now, .slice q5 m5 c5, .slice p5 k5 d5]) 27 :: bx (γ1 1) (#[.int .i64 x1, .int .i64 x2]) 28 :: bx (γ1 0) (#[.int .i64 now, .slice p n cap, .slice pa na ca]) 27 :: (Y46 ++ (Yx46 ++ (Yz46 ++ (Y42 ++ (Yx42 ++ (Yz42 ++ (Y39 ++ (Yx39 ++ (Yz39 ++ (Y5 ++ (Yx5 ++ [])))))))))))) (by kernel_rfl) rfl rfl (mo0 2 [] [90] (fun γ53 => [(92, .slice (some ⟨γ53 0, 0, none⟩) 1 1)]) (fun γ53 L => bx (γ53 0) (#[.slice pz42 kz42 dz42]) 33 :: L) (fun γ53 => cN 9 (fun v Y => ∃ g_ es_ ck_, v = .map (some g_) ∧ Y = [(g_, .map es_ ck_)] ∧ MapKT twoG twoK (Value.int .i64) es_ ck_ (bumpR ((((ringsV two (shT ts) (shR rs)).2.2))))) Try.call12 (fun w hw => (counts_t (some ⟨γ53 0, 0, none⟩) 1 1 [(⟨pz42, kz42, dz42, ((ringsV two (shT ts) (shR rs)).2.2)⟩ : RngsA)] ((((ringsV two (shT ts) (shR rs)).2.2))) w (sv_row (hw.row 0 rfl) (by rfl)) rfl (by decide) (by simp) (fun x hx => by simp only [List.mem_cons, List.mem_singleton, List.not_mem_nil, or_false] at hx; subst hx; exact ⟨(hZ42.at ((hw.tailN 9).sub (((((List.sublist_append_right Yx42 _).trans (List.sublist_append_right Y42 _)).trans (List.sublist_append_right Yz46 _)).trans (List.sublist_append_right Yx46 _)).trans (List.sublist_append_right Y46 _)))), hZ42.len, (show kz42 ≤ 100 from by omega), hk2⟩)).mono fun e w' ⟨g_, es_, ck_, he, hM, hb, hY⟩ => ⟨_, _, he, ⟨g_, es_, ck_, rfl, rfl, hM⟩, hb, hY⟩) ?_))
   rintro v54 Y54 ⟨g54, es54, ck54, rfl, rfl, hM54⟩
   refine Ops.pick [[bx (γ53 0) (#[.slice pz42 kz42 dz42]) 33], [(g52, .map es52 ck52)], [bx (γ51 0) (#[.slice pz39 kz39 dz39, .slice pz46 kz46 dz46]) 33], [bx (γ47 0) (#[.int .i64 two, .slice q46 m46 c46, .slice p46 k46 d46]) 27], [bx (γ43 0) (#[.int .i64 two, .slice q42 m42 c42, .slice p42 k42 d42]) 27], [bx (γ40 0) (#[.int .i64 one, .slice q39 m39 c39, .slice p39 k39 d39]) 27], [bx (γ6 0) (#[.int .i64 now, .slice q5 m5 c5, .slice p5 k5 d5]) 27], [bx (γ1 1) (#[.int .i64 x1, .int .i64 x2]) 28], [bx (γ1 0) (#[.int .i64 now, .slice p n cap, .slice pa na ca]) 27], [(g54, .map es54 ck54)], Y46, Yx46, Yz46, Y42, Yx42, Yz42, Y39, Yx39, Yz39, Y5, Yx5] [9, 0, 1, 2, 3, 4, 5, 6, 7, 8, 10, 11, 12, 13, 14, 15, 16, 17, 18, 19, 20] [] ((g54, .map es54 ck54) :: bx (γ53 0) (#[.slice pz42 kz42 dz42]) 33 :: (g52, .map es52 ck52) :: bx (γ51 0) (#[.slice pz39 kz39 dz39, .slice pz46 kz46 dz46]) 33 :: bx (γ47 0) (#[.int .i64 two, .slice q46 m46 c46, .slice p46 k46 d46]) 27 :: bx (γ43 0) (#[.int .i64 two, .slice q42 m42 c42, .slice p42 k42 d42]) 27 :: bx (γ40 0) (#[.int .i64 one, .slice q39 m39 c39, .slice p39 k39 d39]) 27 :: bx (γ6 0) (#[.int .i64 now, .slice q5 m5 c5, .slice p5 k5 d5]) 27 :: bx (γ1 1) (#[.int .i64 x1, .int .i64 x2]) 28 :: bx (γ1 0) (#[.int .i64 now, .slice p n cap, .slice pa na ca]) 27 :: (Y46 ++ (Yx46 ++ (Yz46 ++ (Y42 ++ (Yx42 ++ (Yz42 ++ (Y39 ++ (Yx39 ++ (Yz39 ++ (Y5 ++ (Yx5 ++ [])))))))))))) (by kernel_rfl) rfl rfl (qo0 2 [] [] [(17, .map (some g52)), (18, .map (some g54))] (on_ (ds_ (sq_ (sq_ ?_)))))
   have hcq : ∀ v p, (kget (bumpR ((((ringsV one (shT ts) (shR rs)).2.2)) ++ (((ringsV two (ringsV one (shT ts) (shR rs)).1 (ringsV one (shT ts) (shR rs)).2.1).2.2)))) (v, p)).getD 0 = (kget (bumpR ((((ringsV two (shT ts) (shR rs)).2.2)))) (v, p)).getD 0 := fun v p => by rw [bump_cnt, bump_cnt]; exact hcn v p
   have hcl : ((bumpR ((((ringsV one (shT ts) (shR rs)).2.2)) ++ (((ringsV two (ringsV one (shT ts) (shR rs)).1 (ringsV one (shT ts) (shR rs)).2.1).2.2))))).length = ((bumpR ((((ringsV two (shT ts) (shR rs)).2.2))))).length := bump_same (fun r hr => (List.mem_append.1 hr).elim (hk1 r) (hk3 r)) hk2 hcn
   refine ao_ (qo0 1 [] [17, 18] [(94, .map (some g52))] (ops_rangeK 2 rfl (by kernel_rfl) (by kernel_rfl) (by kernel_rfl) ⟨39, 2, by kernel_rfl⟩ rfl (fun r57 => on_ (ds_ (at_block (at_loop (α := Array Nat) [17, 18, 95] (fun seen => [(17, .map (some g52)), (18, .map (some g54)), (95, .pointer (some ⟨r57, 0, none⟩))]) (fun seen => (r57, .mapIter (some g52) ck52 seen ck52) :: (g54, .map es54 ck54) :: bx (γ53 0) (#[.slice pz42 kz42 dz42]) 33 :: (g52, .map es52 ck52) :: bx (γ51 0) (#[.slice pz39 kz39 dz39, .slice pz46 kz46 dz46]) 33 :: bx (γ47 0) (#[.int .i64 two, .slice q46 m46 c46, .slice p46 k46 d46]) 27 :: bx (γ43 0) (#[.int .i64 two, .slice q42 m42 c42, .slice p42 k42 d42]) 27 :: bx (γ40 0) (#[.int .i64 one, .slice q39 m39 c39, .slice p39 k39 d39]) 27 :: bx (γ6 0) (#[.int .i64 now, .slice q5 m5 c5, .slice p5 k5 d5]) 27 :: bx (γ1 1) (#[.int .i64 x1, .int .i64 x2]) 28 :: bx (γ1 0) (#[.int .i64 now, .slice p n cap, .slice pa na ca]) 27 :: (Y46 ++ (Yx46 ++ (Yz46 ++ (Y42 ++ (Yx42 ++ (Yz42 ++ (Y39 ++ (Yx39 ++ (Yz39 ++ (Y5 ++ (Yx5 ++ [])))))))))))) (fun seen => True) (fun seen => (leftOf es52 seen).size) #[] (by kernel_rfl) rfl trivial ?_))))))
   rintro seen
   rintro -
   refine sq_ (ao_ (ops_nextK 0 3 rfl (by kernel_rfl) (by kernel_rfl) (by kernel_rfl) rfl rfl hM52 ?_ (fun seen60 p60 hp60 hc60 hlt60 => ?_)))
   ·
    refine qo0 1 [] [17, 18, 95] [(97, .bool false)] (on_ (ds_ (sq_ (f_ (at_leave _ rfl (ds_ (sq_ (qa [(1, .is [.obj 3] (.int .i64 ((((bumpR ((((ringsV one (shT ts) (shR rs)).2.2)) ++ (((ringsV two (ringsV one (shT ts) (shR rs)).1 (ringsV one (shT ts) (shR rs)).2.1).2.2))))).length : Nat)))), (3, .is [.obj 1] (.int .i64 ((((bumpR ((((ringsV two (shT ts) (shR rs)).2.2))))).length : Nat)))), (4, .yes)] [] [(4, .bool true)] ([Value.int .i64 (es52).size = .int .i64 ((((bumpR ((((ringsV one (shT ts) (shR rs)).2.2)) ++ (((ringsV two (ringsV one (shT ts) (shR rs)).1 (ringsV one (shT ts) (shR rs)).2.1).2.2))))).length : Nat))] ++ ([Value.int .i64 (es54).size = .int .i64 ((((bumpR ((((ringsV two (shT ts) (shR rs)).2.2))))).length : Nat))] ++ ([((((bumpR ((((ringsV one (shT ts) (shR rs)).2.2)) ++ (((ringsV two (ringsV one (shT ts) (shR rs)).1 (ringsV one (shT ts) (shR rs)).2.1).2.2))))).length : Nat) : Int) = ((((bumpR ((((ringsV two (shT ts) (shR rs)).2.2))))).length : Nat) : Int)]))) (alA (al1 (by rw [hM52.size]; first | done | rfl)) (alA (al1 (by rw [hM54.size]; first | done | rfl)) (al1 ((by omega))))) (ds_ (rt ([]) (.bool true) ?_))))))))))
    exact fun w' hw => ⟨rfl, hw.below⟩
   ·
    refine qo0 1 [] [17, 18, 95] [(97, .bool true)] (on_ (ds_ (sq_ (t_ (at_skip (ds_ (at_block (sq_ (ao_ (ops_curK 0 3 (p := p60) rfl (by kernel_rfl) (by kernel_rfl) (by kernel_rfl) rfl rfl hM52 hc60 (mo0 3 [(3, .go (owns 0 0 2))] [17, 18, 95] (fun γ65 => [(19, .pointer (some ⟨γ65 0, 0, none⟩))]) (fun γ65 L => bx (γ65 0) (#[.int .i64 p60.1.1, .int .i64 p60.1.2]) 39 :: L) (fun γ65 => on_ (ds_ (sq_ ?_))))))))))))))
    refine at_any (by kernel_rfl) ?_
    refine tk (m := 5) [0, 3] [] [17, 18, 19, 95] [(100, .map (some g52)), (103, .map (some g54))] ([]) #[true, false, false, true, false, false, false] al0 ?_
    refine any_cutX (V := Unit) (fun _ => True) 0 #[true, true, true, true, true, true, true] (fun _ => [(17, .map (some g52)), (18, .map (some g54)), (95, .pointer (some ⟨r57, 0, none⟩)), (106, .bool false)]) (fun _ => bx (γ65 0) (#[.int .i64 p60.1.1, .int .i64 p60.1.2]) 39 :: (r57, .mapIter (some g52) ck52 seen60 ck52) :: (g54, .map es54 ck54) :: bx (γ53 0) (#[.slice pz42 kz42 dz42]) 33 :: (g52, .map es52 ck52) :: bx (γ51 0) (#[.slice pz39 kz39 dz39, .slice pz46 kz46 dz46]) 33 :: bx (γ47 0) (#[.int .i64 two, .slice q46 m46 c46, .slice p46 k46 d46]) 27 :: bx (γ43 0) (#[.int .i64 two, .slice q42 m42 c42, .slice p42 k42 d42]) 27 :: bx (γ40 0) (#[.int .i64 one, .slice q39 m39 c39, .slice p39 k39 d39]) 27 :: bx (γ6 0) (#[.int .i64 now, .slice q5 m5 c5, .slice p5 k5 d5]) 27 :: bx (γ1 1) (#[.int .i64 x1, .int .i64 x2]) 28 :: bx (γ1 0) (#[.int .i64 now, .slice p n cap, .slice pa na ca]) 27 :: (Y46 ++ (Yx46 ++ (Yz46 ++ (Y42 ++ (Yx42 ++ (Yz42 ++ (Y39 ++ (Yx39 ++ (Yz39 ++ (Y5 ++ (Yx5 ++ [])))))))))))) ?_ (fun hmx8 => ?_)
    rotate_left
    ·
     refine any_cutX (V := Unit) (fun _ => True) 2 #[true, true, false, true, true, true, false] (fun _ => [(17, .map (some g52)), (18, .map (some g54)), (95, .pointer (some ⟨r57, 0, none⟩)), (100, .map (some g52)), (101, .agg #[.int .i64 p60.1.1, .int .i64 p60.1.2]), (105, .int .i64 (((kget ((bumpR ((((ringsV two (shT ts) (shR rs)).2.2))))) (p60.1.1, p60.1.2)).getD (0 : Int))))]) (fun _ => bx (γ65 0) (#[.int .i64 p60.1.1, .int .i64 p60.1.2]) 39 :: (r57, .mapIter (some g52) ck52 seen60 ck52) :: (g54, .map es54 ck54) :: bx (γ53 0) (#[.slice pz42 kz42 dz42]) 33 :: (g52, .map es52 ck52) :: bx (γ51 0) (#[.slice pz39 kz39 dz39, .slice pz46 kz46 dz46]) 33 :: bx (γ47 0) (#[.int .i64 two, .slice q46 m46 c46, .slice p46 k46 d46]) 27 :: bx (γ43 0) (#[.int .i64 two, .slice q42 m42 c42, .slice p42 k42 d42]) 27 :: bx (γ40 0) (#[.int .i64 one, .slice q39 m39 c39, .slice p39 k39 d39]) 27 :: bx (γ6 0) (#[.int .i64 now, .slice q5 m5 c5, .slice p5 k5 d5]) 27 :: bx (γ1 1) (#[.int .i64 x1, .int .i64 x2]) 28 :: bx (γ1 0) (#[.int .i64 now, .slice p n cap, .slice pa na ca]) 27 :: (Y46 ++ (Yx46 ++ (Yz46 ++ (Y42 ++ (Yx42 ++ (Yz42 ++ (Y39 ++ (Yx39 ++ (Yz39 ++ (Y5 ++ (Yx5 ++ [])))))))))))) ?_ (fun hmx7 => ?_)
     ·
      rintro _ _
      refine a1 2 rfl ?_
      refine ops_lookupK (enc := (Value.int .i64)) (kk := (p60.1.1, p60.1.2)) 4 ((Value.int .i64) (0 : Int)) (.int .i64 (((kget ((bumpR ((((ringsV one (shT ts) (shR rs)).2.2)) ++ (((ringsV two (ringsV one (shT ts) (shR rs)).1 (ringsV one (shT ts) (shR rs)).2.1).2.2))))) (p60.1.1, p60.1.2)).getD (0 : Int)))) two_ok (hM52.good _ hp60) rfl (by kernel_rfl) (by kernel_rfl) (by kernel_rfl) (by kernel_rfl) (⟨2, by kernel_rfl, by kernel_rfl⟩ : mapK Try.prog 37 39 ((Value.int .i64) (0 : Int))) rfl hM52.toMapKs (map_getD _ _ _) ?_
      refine od_ ?_
      refine tk (m := 0) [6] [(6, .no)] [17, 18, 95] [(106, .bool false)] ([¬ ((((kget ((bumpR ((((ringsV one (shT ts) (shR rs)).2.2)) ++ (((ringsV two (ringsV one (shT ts) (shR rs)).1 (ringsV one (shT ts) (shR rs)).2.1).2.2))))) (p60.1.1, p60.1.2)).getD (0 : Int)) : Int) ≠ (((kget ((bumpR ((((ringsV two (shT ts) (shR rs)).2.2))))) (p60.1.1, p60.1.2)).getD (0 : Int)) : Int))]) #[true, true, true, true, true, true, true] (al1 ((fun h => h (hcq _ _)))) ?_
      exact wk (hmx8 () trivial) [17, 18, 95, 106] [[_], [_], [_], [_], [_], [_], [_], [_], [_], [_], [_], [_], _, _, _, _, _, _, _, _, _, _, _] [0, 1, 2, 3, 4, 5, 6, 7, 8, 9, 10, 11, 12, 13, 14, 15, 16, 17, 18, 19, 20, 21, 22] rfl rfl
     refine any_cutX (V := Unit) (fun _ => True) 2 #[true, true, true, true, true, false, false] (fun _ => [(17, .map (some g52)), (18, .map (some g54)), (95, .pointer (some ⟨r57, 0, none⟩)), (102, .int .i64 (((kget ((bumpR ((((ringsV one (shT ts) (shR rs)).2.2)) ++ (((ringsV two (ringsV one (shT ts) (shR rs)).1 (ringsV one (shT ts) (shR rs)).2.1).2.2))))) (p60.1.1, p60.1.2)).getD (0 : Int)))), (103, .map (some g54)), (104, .agg #[.int .i64 p60.1.1, .int .i64 p60.1.2])]) (fun _ => bx (γ65 0) (#[.int .i64 p60.1.1, .int .i64 p60.1.2]) 39 :: (r57, .mapIter (some g52) ck52 seen60 ck52) :: (g54, .map es54 ck54) :: bx (γ53 0) (#[.slice pz42 kz42 dz42]) 33 :: (g52, .map es52 ck52) :: bx (γ51 0) (#[.slice pz39 kz39 dz39, .slice pz46 kz46 dz46]) 33 :: bx (γ47 0) (#[.int .i64 two, .slice q46 m46 c46, .slice p46 k46 d46]) 27 :: bx (γ43 0) (#[.int .i64 two, .slice q42 m42 c42, .slice p42 k42 d42]) 27 :: bx (γ40 0) (#[.int .i64 one, .slice q39 m39 c39, .slice p39 k39 d39]) 27 :: bx (γ6 0) (#[.int .i64 now, .slice q5 m5 c5, .slice p5 k5 d5]) 27 :: bx (γ1 1) (#[.int .i64 x1, .int .i64 x2]) 28 :: bx (γ1 0) (#[.int .i64 now, .slice p n cap, .slice pa na ca]) 27 :: (Y46 ++ (Yx46 ++ (Yz46 ++ (Y42 ++ (Yx42 ++ (Yz42 ++ (Y39 ++ (Yx39 ++ (Yz39 ++ (Y5 ++ (Yx5 ++ [])))))))))))) ?_ (fun hmx6 => ?_)
     ·
      rintro _ _
      refine a1 5 rfl ?_
      refine ops_lookupK (enc := (Value.int .i64)) (kk := (p60.1.1, p60.1.2)) 2 ((Value.int .i64) (0 : Int)) (.int .i64 (((kget ((bumpR ((((ringsV two (shT ts) (shR rs)).2.2))))) (p60.1.1, p60.1.2)).getD (0 : Int)))) two_ok (hM52.good _ hp60) rfl (by kernel_rfl) (by kernel_rfl) (by kernel_rfl) (by kernel_rfl) (⟨2, by kernel_rfl, by kernel_rfl⟩ : mapK Try.prog 37 39 ((Value.int .i64) (0 : Int))) rfl hM54.toMapKs (map_getD _ _ _) ?_
      refine od_ ?_
      refine tk (m := 0) [6] [(6, .no)] [17, 18, 95] [(106, .bool false)] ([¬ ((((kget ((bumpR ((((ringsV one (shT ts) (shR rs)).2.2)) ++ (((ringsV two (ringsV one (shT ts) (shR rs)).1 (ringsV one (shT ts) (shR rs)).2.1).2.2))))) (p60.1.1, p60.1.2)).getD (0 : Int)) : Int) ≠ (((kget ((bumpR ((((ringsV two (shT ts) (shR rs)).2.2))))) (p60.1.1, p60.1.2)).getD (0 : Int)) : Int))]) #[true, true, true, true, true, true, true] (al1 ((fun h => h (hcq _ _)))) ?_
      exact wk (hmx8 () trivial) [17, 18, 95, 106] [[_], [_], [_], [_], [_], [_], [_], [_], [_], [_], [_], [_], _, _, _, _, _, _, _, _, _, _, _] [0, 1, 2, 3, 4, 5, 6, 7, 8, 9, 10, 11, 12, 13, 14, 15, 16, 17, 18, 19, 20, 21, 22] rfl rfl
     refine any_cutX (V := Unit) (fun _ => True) 3 #[true, false, false, true, true, true, false] (fun _ => [(17, .map (some g52)), (18, .map (some g54)), (19, .pointer (some ⟨γ65 0, 0, none⟩)), (95, .pointer (some ⟨r57, 0, none⟩)), (100, .map (some g52)), (105, .int .i64 (((kget ((bumpR ((((ringsV two (shT ts) (shR rs)).2.2))))) (p60.1.1, p60.1.2)).getD (0 : Int))))]) (fun _ => bx (γ65 0) (#[.int .i64 p60.1.1, .int .i64 p60.1.2]) 39 :: (r57, .mapIter (some g52) ck52 seen60 ck52) :: (g54, .map es54 ck54) :: bx (γ53 0) (#[.slice pz42 kz42 dz42]) 33 :: (g52, .map es52 ck52) :: bx (γ51 0) (#[.slice pz39 kz39 dz39, .slice pz46 kz46 dz46]) 33 :: bx (γ47 0) (#[.int .i64 two, .slice q46 m46 c46, .slice p46 k46 d46]) 27 :: bx (γ43 0) (#[.int .i64 two, .slice q42 m42 c42, .slice p42 k42 d42]) 27 :: bx (γ40 0) (#[.int .i64 one, .slice q39 m39 c39, .slice p39 k39 d39]) 27 :: bx (γ6 0) (#[.int .i64 now, .slice q5 m5 c5, .slice p5 k5 d5]) 27 :: bx (γ1 1) (#[.int .i64 x1, .int .i64 x2]) 28 :: bx (γ1 0) (#[.int .i64 now, .slice p n cap, .slice pa na ca]) 27 :: (Y46 ++ (Yx46 ++ (Yz46 ++ (Y42 ++ (Yx42 ++ (Yz42 ++ (Y39 ++ (Yx39 ++ (Yz39 ++ (Y5 ++ (Yx5 ++ [])))))))))))) ?_ (fun hmx5 => ?_)
     ·
      rintro _ _
      refine a1 1 rfl ?_
      refine qo0 1 [(1, .go (owns 0 0 2))] [17, 18, 95, 100, 105] [(101, .agg #[.int .i64 p60.1.1, .int .i64 p60.1.2])] ?_
      refine od_ ?_
      exact wk (hmx7 () trivial) [17, 18, 95, 100, 101, 105] [[_], [_], [_], [_], [_], [_], [_], [_], [_], [_], [_], [_], _, _, _, _, _, _, _, _, _, _, _] [0, 1, 2, 3, 4, 5, 6, 7, 8, 9, 10, 11, 12, 13, 14, 15, 16, 17, 18, 19, 20, 21, 22] rfl rfl
     refine any_cutX (V := Unit) (fun _ => True) 3 #[true, true, false, true, true, false, false] (fun _ => [(17, .map (some g52)), (18, .map (some g54)), (95, .pointer (some ⟨r57, 0, none⟩)), (100, .map (some g52)), (101, .agg #[.int .i64 p60.1.1, .int .i64 p60.1.2]), (103, .map (some g54)), (104, .agg #[.int .i64 p60.1.1, .int .i64 p60.1.2])]) (fun _ => bx (γ65 0) (#[.int .i64 p60.1.1, .int .i64 p60.1.2]) 39 :: (r57, .mapIter (some g52) ck52 seen60 ck52) :: (g54, .map es54 ck54) :: bx (γ53 0) (#[.slice pz42 kz42 dz42]) 33 :: (g52, .map es52 ck52) :: bx (γ51 0) (#[.slice pz39 kz39 dz39, .slice pz46 kz46 dz46]) 33 :: bx (γ47 0) (#[.int .i64 two, .slice q46 m46 c46, .slice p46 k46 d46]) 27 :: bx (γ43 0) (#[.int .i64 two, .slice q42 m42 c42, .slice p42 k42 d42]) 27 :: bx (γ40 0) (#[.int .i64 one, .slice q39 m39 c39, .slice p39 k39 d39]) 27 :: bx (γ6 0) (#[.int .i64 now, .slice q5 m5 c5, .slice p5 k5 d5]) 27 :: bx (γ1 1) (#[.int .i64 x1, .int .i64 x2]) 28 :: bx (γ1 0) (#[.int .i64 now, .slice p n cap, .slice pa na ca]) 27 :: (Y46 ++ (Yx46 ++ (Yz46 ++ (Y42 ++ (Yx42 ++ (Yz42 ++ (Y39 ++ (Yx39 ++ (Yz39 ++ (Y5 ++ (Yx5 ++ [])))))))))))) ?_ (fun hmx4 => ?_)
     ·
      rintro _ _
      refine any_fork [2, 5] (by kernel_rfl) (by simp) (each_cons _ rfl ?_ (each_cons _ rfl ?_ (each_nil)))
      ·
       refine ops_lookupK (enc := (Value.int .i64)) (kk := (p60.1.1, p60.1.2)) 4 ((Value.int .i64) (0 : Int)) (.int .i64 (((kget ((bumpR ((((ringsV one (shT ts) (shR rs)).2.2)) ++ (((ringsV two (ringsV one (shT ts) (shR rs)).1 (ringsV one (shT ts) (shR rs)).2.1).2.2))))) (p60.1.1, p60.1.2)).getD (0 : Int)))) two_ok (hM52.good _ hp60) rfl (by kernel_rfl) (by kernel_rfl) (by kernel_rfl) (by kernel_rfl) (⟨2, by kernel_rfl, by kernel_rfl⟩ : mapK Try.prog 37 39 ((Value.int .i64) (0 : Int))) rfl hM52.toMapKs (map_getD _ _ _) ?_
       refine od_ ?_
       exact wk (hmx6 () trivial) [17, 18, 95, 102, 103, 104] [[_], [_], [_], [_], [_], [_], [_], [_], [_], [_], [_], [_], _, _, _, _, _, _, _, _, _, _, _] [0, 1, 2, 3, 4, 5, 6, 7, 8, 9, 10, 11, 12, 13, 14, 15, 16, 17, 18, 19, 20, 21, 22] rfl rfl
      ·
       refine ops_lookupK (enc := (Value.int .i64)) (kk := (p60.1.1, p60.1.2)) 2 ((Value.int .i64) (0 : Int)) (.int .i64 (((kget ((bumpR ((((ringsV two (shT ts) (shR rs)).2.2))))) (p60.1.1, p60.1.2)).getD (0 : Int)))) two_ok (hM52.good _ hp60) rfl (by kernel_rfl) (by kernel_rfl) (by kernel_rfl) (by kernel_rfl) (⟨2, by kernel_rfl, by kernel_rfl⟩ : mapK Try.prog 37 39 ((Value.int .i64) (0 : Int))) rfl hM54.toMapKs (map_getD _ _ _) ?_
       refine od_ ?_
       exact wk (hmx7 () trivial) [17, 18, 95, 100, 101, 105] [[_], [_], [_], [_], [_], [_], [_], [_], [_], [_], [_], [_], _, _, _, _, _, _, _, _, _, _, _] [0, 1, 2, 3, 4, 5, 6, 7, 8, 9, 10, 11, 12, 13, 14, 15, 16, 17, 18, 19, 20, 21, 22] rfl rfl
     refine any_cutX (V := Unit) (fun _ => True) 3 #[true, true, true, true, false, false, false] (fun _ => [(17, .map (some g52)), (18, .map (some g54)), (19, .pointer (some ⟨γ65 0, 0, none⟩)), (95, .pointer (some ⟨r57, 0, none⟩)), (102, .int .i64 (((kget ((bumpR ((((ringsV one (shT ts) (shR rs)).2.2)) ++ (((ringsV two (ringsV one (shT ts) (shR rs)).1 (ringsV one (shT ts) (shR rs)).2.1).2.2))))) (p60.1.1, p60.1.2)).getD (0 : Int)))), (103, .map (some g54))]) (fun _ => bx (γ65 0) (#[.int .i64 p60.1.1, .int .i64 p60.1.2]) 39 :: (r57, .mapIter (some g52) ck52 seen60 ck52) :: (g54, .map es54 ck54) :: bx (γ53 0) (#[.slice pz42 kz42 dz42]) 33 :: (g52, .map es52 ck52) :: bx (γ51 0) (#[.slice pz39 kz39 dz39, .slice pz46 kz46 dz46]) 33 :: bx (γ47 0) (#[.int .i64 two, .slice q46 m46 c46, .slice p46 k46 d46]) 27 :: bx (γ43 0) (#[.int .i64 two, .slice q42 m42 c42, .slice p42 k42 d42]) 27 :: bx (γ40 0) (#[.int .i64 one, .slice q39 m39 c39, .slice p39 k39 d39]) 27 :: bx (γ6 0) (#[.int .i64 now, .slice q5 m5 c5, .slice p5 k5 d5]) 27 :: bx (γ1 1) (#[.int .i64 x1, .int .i64 x2]) 28 :: bx (γ1 0) (#[.int .i64 now, .slice p n cap, .slice pa na ca]) 27 :: (Y46 ++ (Yx46 ++ (Yz46 ++ (Y42 ++ (Yx42 ++ (Yz42 ++ (Y39 ++ (Yx39 ++ (Yz39 ++ (Y5 ++ (Yx5 ++ [])))))))))))) ?_ (fun hmx3 => ?_)
     ·
      rintro _ _
      refine a1 4 rfl ?_
      refine qo0 1 [(4, .go (owns 0 0 2))] [17, 18, 95, 102, 103] [(104, .agg #[.int .i64 p60.1.1, .int .i64 p60.1.2])] ?_
      refine od_ ?_
      exact wk (hmx6 () trivial) [17, 18, 95, 102, 103, 104] [[_], [_], [_], [_], [_], [_], [_], [_], [_], [_], [_], [_], _, _, _, _, _, _, _, _, _, _, _] [0, 1, 2, 3, 4, 5, 6, 7, 8, 9, 10, 11, 12, 13, 14, 15, 16, 17, 18, 19, 20, 21, 22] rfl rfl
     refine any_cutX (V := Unit) (fun _ => True) 4 #[true, false, false, true, true, false, false] (fun _ => [(17, .map (some g52)), (18, .map (some g54)), (19, .pointer (some ⟨γ65 0, 0, none⟩)), (95, .pointer (some ⟨r57, 0, none⟩)), (100, .map (some g52)), (103, .map (some g54)), (104, .agg #[.int .i64 p60.1.1, .int .i64 p60.1.2])]) (fun _ => bx (γ65 0) (#[.int .i64 p60.1.1, .int .i64 p60.1.2]) 39 :: (r57, .mapIter (some g52) ck52 seen60 ck52) :: (g54, .map es54 ck54) :: bx (γ53 0) (#[.slice pz42 kz42 dz42]) 33 :: (g52, .map es52 ck52) :: bx (γ51 0) (#[.slice pz39 kz39 dz39, .slice pz46 kz46 dz46]) 33 :: bx (γ47 0) (#[.int .i64 two, .slice q46 m46 c46, .slice p46 k46 d46]) 27 :: bx (γ43 0) (#[.int .i64 two, .slice q42 m42 c42, .slice p42 k42 d42]) 27 :: bx (γ40 0) (#[.int .i64 one, .slice q39 m39 c39, .slice p39 k39 d39]) 27 :: bx (γ6 0) (#[.int .i64 now, .slice q5 m5 c5, .slice p5 k5 d5]) 27 :: bx (γ1 1) (#[.int .i64 x1, .int .i64 x2]) 28 :: bx (γ1 0) (#[.int .i64 now, .slice p n cap, .slice pa na ca]) 27 :: (Y46 ++ (Yx46 ++ (Yz46 ++ (Y42 ++ (Yx42 ++ (Yz42 ++ (Y39 ++ (Yx39 ++ (Yz39 ++ (Y5 ++ (Yx5 ++ [])))))))))))) ?_ (fun hmx2 => ?_)
     ·
      rintro _ _
      refine any_fork [1, 5] (by kernel_rfl) (by simp) (each_cons _ rfl ?_ (each_cons _ rfl ?_ (each_nil)))
      ·
       refine qo0 1 [(1, .go (owns 0 0 2))] [17, 18, 95, 100, 103, 104] [(101, .agg #[.int .i64 p60.1.1, .int .i64 p60.1.2])] ?_
       refine od_ ?_
       exact wk (hmx4 () trivial) [17, 18, 95, 100, 101, 103, 104] [[_], [_], [_], [_], [_], [_], [_], [_], [_], [_], [_], [_], _, _, _, _, _, _, _, _, _, _, _] [0, 1, 2, 3, 4, 5, 6, 7, 8, 9, 10, 11, 12, 13, 14, 15, 16, 17, 18, 19, 20, 21, 22] rfl rfl
      ·
       refine ops_lookupK (enc := (Value.int .i64)) (kk := (p60.1.1, p60.1.2)) 2 ((Value.int .i64) (0 : Int)) (.int .i64 (((kget ((bumpR ((((ringsV two (shT ts) (shR rs)).2.2))))) (p60.1.1, p60.1.2)).getD (0 : Int)))) two_ok (hM52.good _ hp60) rfl (by kernel_rfl) (by kernel_rfl) (by kernel_rfl) (by kernel_rfl) (⟨2, by kernel_rfl, by kernel_rfl⟩ : mapK Try.prog 37 39 ((Value.int .i64) (0 : Int))) rfl hM54.toMapKs (map_getD _ _ _) ?_
       refine od_ ?_
       exact wk (hmx5 () trivial) [17, 18, 19, 95, 100, 105] [[_], [_], [_], [_], [_], [_], [_], [_], [_], [_], [_], [_], _, _, _, _, _, _, _, _, _, _, _] [0, 1, 2, 3, 4, 5, 6, 7, 8, 9, 10, 11, 12, 13, 14, 15, 16, 17, 18, 19, 20, 21, 22] rfl rfl
     refine any_cutX (V := Unit) (fun _ => True) 4 #[true, true, false, true, false, false, false] (fun _ => [(17, .map (some g52)), (18, .map (some g54)), (19, .pointer (some ⟨γ65 0, 0, none⟩)), (95, .pointer (some ⟨r57, 0, none⟩)), (100, .map (some g52)), (101, .agg #[.int .i64 p60.1.1, .int .i64 p60.1.2]), (103, .map (some g54))]) (fun _ => bx (γ65 0) (#[.int .i64 p60.1.1, .int .i64 p60.1.2]) 39 :: (r57, .mapIter (some g52) ck52 seen60 ck52) :: (g54, .map es54 ck54) :: bx (γ53 0) (#[.slice pz42 kz42 dz42]) 33 :: (g52, .map es52 ck52) :: bx (γ51 0) (#[.slice pz39 kz39 dz39, .slice pz46 kz46 dz46]) 33 :: bx (γ47 0) (#[.int .i64 two, .slice q46 m46 c46, .slice p46 k46 d46]) 27 :: bx (γ43 0) (#[.int .i64 two, .slice q42 m42 c42, .slice p42 k42 d42]) 27 :: bx (γ40 0) (#[.int .i64 one, .slice q39 m39 c39, .slice p39 k39 d39]) 27 :: bx (γ6 0) (#[.int .i64 now, .slice q5 m5 c5, .slice p5 k5 d5]) 27 :: bx (γ1 1) (#[.int .i64 x1, .int .i64 x2]) 28 :: bx (γ1 0) (#[.int .i64 now, .slice p n cap, .slice pa na ca]) 27 :: (Y46 ++ (Yx46 ++ (Yz46 ++ (Y42 ++ (Yx42 ++ (Yz42 ++ (Y39 ++ (Yx39 ++ (Yz39 ++ (Y5 ++ (Yx5 ++ [])))))))))))) ?_ (fun hmx1 => ?_)
     ·
      rintro _ _
      refine any_fork [2, 4] (by kernel_rfl) (by simp) (each_cons _ rfl ?_ (each_cons _ rfl ?_ (each_nil)))
      ·
       refine ops_lookupK (enc := (Value.int .i64)) (kk := (p60.1.1, p60.1.2)) 4 ((Value.int .i64) (0 : Int)) (.int .i64 (((kget ((bumpR ((((ringsV one (shT ts) (shR rs)).2.2)) ++ (((ringsV two (ringsV one (shT ts) (shR rs)).1 (ringsV one (shT ts) (shR rs)).2.1).2.2))))) (p60.1.1, p60.1.2)).getD (0 : Int)))) two_ok (hM52.good _ hp60) rfl (by kernel_rfl) (by kernel_rfl) (by kernel_rfl) (by kernel_rfl) (⟨2, by kernel_rfl, by kernel_rfl⟩ : mapK Try.prog 37 39 ((Value.int .i64) (0 : Int))) rfl hM52.toMapKs (map_getD _ _ _) ?_
       refine od_ ?_
       exact wk (hmx3 () trivial) [17, 18, 19, 95, 102, 103] [[_], [_], [_], [_], [_], [_], [_], [_], [_], [_], [_], [_], _, _, _, _, _, _, _, _, _, _, _] [0, 1, 2, 3, 4, 5, 6, 7, 8, 9, 10, 11, 12, 13, 14, 15, 16, 17, 18, 19, 20, 21, 22] rfl rfl
      ·
       refine qo0 1 [(4, .go (owns 0 0 2))] [17, 18, 95, 100, 101, 103] [(104, .agg #[.int .i64 p60.1.1, .int .i64 p60.1.2])] ?_
       refine od_ ?_
       exact wk (hmx4 () trivial) [17, 18, 95, 100, 101, 103, 104] [[_], [_], [_], [_], [_], [_], [_], [_], [_], [_], [_], [_], _, _, _, _, _, _, _, _, _, _, _] [0, 1, 2, 3, 4, 5, 6, 7, 8, 9, 10, 11, 12, 13, 14, 15, 16, 17, 18, 19, 20, 21, 22] rfl rfl
     refine any_fork [1, 4] (by kernel_rfl) (by simp) (each_cons _ rfl ?_ (each_cons _ rfl ?_ (each_nil)))
     ·
      refine qo0 1 [(1, .go (owns 0 0 2))] [17, 18, 19, 95, 100, 103] [(101, .agg #[.int .i64 p60.1.1, .int .i64 p60.1.2])] ?_
      refine od_ ?_
      exact wk (hmx1 () trivial) [17, 18, 19, 95, 100, 101, 103] [[_], [_], [_], [_], [_], [_], [_], [_], [_], [_], [_], [_], _, _, _, _, _, _, _, _, _, _, _] [0, 1, 2, 3, 4, 5, 6, 7, 8, 9, 10, 11, 12, 13, 14, 15, 16, 17, 18, 19, 20, 21, 22] rfl rfl
     ·
      refine qo0 1 [(4, .go (owns 0 0 2))] [17, 18, 19, 95, 100, 103] [(104, .agg #[.int .i64 p60.1.1, .int .i64 p60.1.2])] ?_
      refine od_ ?_
      exact wk (hmx2 () trivial) [17, 18, 19, 95, 100, 103, 104] [[_], [_], [_], [_], [_], [_], [_], [_], [_], [_], [_], [_], _, _, _, _, _, _, _, _, _, _, _] [0, 1, 2, 3, 4, 5, 6, 7, 8, 9, 10, 11, 12, 13, 14, 15, 16, 17, 18, 19, 20, 21, 22] rfl rfl
    rintro _ _
    refine any_nil (by kernel_rfl) ?_
    refine ds_ (f_ (at_skip (done_block (Done.drop (L' := (r57, .mapIter (some g52) ck52 seen60 ck52) :: (g54, .map es54 ck54) :: bx (γ53 0) (#[.slice pz42 kz42 dz42]) 33 :: (g52, .map es52 ck52) :: bx (γ51 0) (#[.slice pz39 kz39 dz39, .slice pz46 kz46 dz46]) 33 :: bx (γ47 0) (#[.int .i64 two, .slice q46 m46 c46, .slice p46 k46 d46]) 27 :: bx (γ43 0) (#[.int .i64 two, .slice q42 m42 c42, .slice p42 k42 d42]) 27 :: bx (γ40 0) (#[.int .i64 one, .slice q39 m39 c39, .slice p39 k39 d39]) 27 :: bx (γ6 0) (#[.int .i64 now, .slice q5 m5 c5, .slice p5 k5 d5]) 27 :: bx (γ1 1) (#[.int .i64 x1, .int .i64 x2]) 28 :: bx (γ1 0) (#[.int .i64 now, .slice p n cap, .slice pa na ca]) 27 :: (Y46 ++ (Yx46 ++ (Yz46 ++ (Y42 ++ (Yx42 ++ (Yz42 ++ (Y39 ++ (Yx39 ++ (Yz39 ++ (Y5 ++ (Yx5 ++ [])))))))))))) ?_ (List.Sublist.cons _ (List.Sublist.cons_cons _ (List.Sublist.cons_cons _ (List.Sublist.cons_cons _ (List.Sublist.cons_cons _ (List.Sublist.cons_cons _ (List.Sublist.cons_cons _ (List.Sublist.cons_cons _ (List.Sublist.cons_cons _ (List.Sublist.cons_cons _ (List.Sublist.cons_cons _ (List.Sublist.cons_cons _ (List.Sublist.refl _)))))))))))))))))
    exact done_round [17, 18, 95] seen60 (by kernel_rfl) rfl trivial (by first | exact hlt60 | omega)
end Go.Proofs.Ytdbamgbgnpadjaa

/-! The walker: what a row's inputs are: slices and structs, opened into lists. -/
namespace Go.Proofs.Ytdbamgbgnpadjaa
open Go Go.RowKit

section
variable {H : Type} {enc : TypeId × Value → H} {P : Program} {w : World} {base : Nat} {spare : Nat → Bool} {held : Bool}
theorem spot_none {a : Addr} (h : a.spot = none) : a = ⟨a.block, a.off, none⟩ := by
  cases a
  simp at h
  simp [h]
theorem trod_sv {α : Type} [Enc α] {t e : TypeId} {fuel : Nat} {cs : List Value} {x : DataW H × List MemPlace} {Good : α → Prop} (ht : P.underlying t = some (.slice e)) (hc : P.cellsOf e = Enc.k α)
    (hopen : ∀ (fuel : Nat) (cs : List Value) (x : DataW H × List MemPlace), DataW.trod enc P w base spare held fuel e cs = some x → ∃ a : α, cs = Enc.enc a ∧ Good a) (h : DataW.trod enc P w base spare held fuel t cs = some x) :
    ∃ (p : Option Addr) (n cap : Nat) (l : List α), cs = [.slice p n cap] ∧ Sv w p l ∧ n = l.length ∧ n ≤ cap ∧ cap ≤ maxLen ∧ ∀ y ∈ l, Good y := by
  rcases Deep.open_slice ht h with ⟨hcs, _⟩ | ⟨a, len, cap, m, n', D, Pl, hcs, _, hle, hmx, hm, _, hi⟩
  · exact ⟨none, 0, 0, [], hcs, Sv.nil, rfl, Nat.le_refl _, Nat.zero_le _, fun y hy => by cases hy⟩
  · have key : ∀ i, i < len → ∃ y : α, w.cells? base (a.add (i * Enc.k α)) (Enc.k α) = some (Enc.enc y) ∧ Good y := fun i hin => by
      have him : i < m := by rw [hm]; split <;> omega
      obtain ⟨cs', h1, h2⟩ := hi i him
      obtain ⟨y, rfl, hy⟩ := hopen _ _ _ h2
      rw [hc] at h1
      exact ⟨y, h1, hy⟩
    rcases Nat.eq_zero_or_pos len with h0 | h0
    · subst h0
      exact ⟨some a, 0, cap, [], hcs, Sv.nil, rfl, hle, hmx, fun y hy => by cases hy⟩
    · obtain ⟨y0, hy0, _⟩ := key 0 h0
      haveI : Inhabited α := ⟨y0⟩
      obtain ⟨f, hf⟩ := Deep.choose_lt key
      obtain ⟨_, _, hcell⟩ := World.cells?_some hy0
      have h00 := hcell 0 Enc.pos
      have hlen0 : 0 < (Enc.enc y0).length := by rw [Enc.len]; exact Enc.pos
      rw [List.getElem?_eq_getElem hlen0, Nat.zero_mul, show (a.add 0).add 0 = a by simp [Addr.add]] at h00
      have hsp := spot_none (World.cell?_spot h00)
      refine ⟨some a, len, cap, (List.range len).map f, hcs, ⟨fun _ => ⟨a.block, a.off, by rw [← hsp]⟩, fun b o hbo i hil => ?_⟩, by simp, hle, hmx, fun y hy => ?_⟩
      · have hil' : i < len := by simpa using hil
        obtain ⟨_, _, hc2⟩ := World.cells?_some (hf i hil').1
        have ha : a = ⟨b, o, none⟩ := by simpa using hbo
        subst ha
        intro j v hj
        have hjk : j < Enc.k α := by rw [← Enc.len (f i)]; have := (List.getElem?_eq_some_iff.1 hj).1; simpa using this
        have h3 := hc2 j hjk
        rw [Deep.add_add] at h3
        have h4 : (Enc.enc (f i))[j]? = some v := by simpa using hj
        rw [h4] at h3
        have h5 : (⟨b, o, none⟩ : Addr).add (i * Enc.k α + j) = ⟨b, o + i * Enc.k α + j, none⟩ := by
          unfold Addr.add; split <;> simp_all <;> omega
        rw [h5] at h3
        exact h3
      · obtain ⟨i, hir, rfl⟩ := List.mem_map.1 hy
        exact (hf i (List.mem_range.1 hir)).2
theorem list2' {α : Type} {cs : List α} (h : cs.length = 2) : ∃ c0 c1, cs = [c0, c1] := by
  match cs, h with
  | [a, b], _ => exact ⟨a, b, rfl⟩
end
end Go.Proofs.Ytdbamgbgnpadjaa
