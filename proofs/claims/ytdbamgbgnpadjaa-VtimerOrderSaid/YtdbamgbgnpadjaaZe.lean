/- Texts of this proof, one behind the other. -/
import Derived.Test.YtdbamgbgnpadjaaZc
import Derived.Test.YtdbamgbgnpadjaaZd
import Derived.Test.YtdbamgbgnpadjaaZb
import Derived.Test.YtdbamgbgnpadjaaProg
import Derived.DeepKeys4
import Derived.Test.YtdbamgbgnpadjaaZa
import Derived.ProofKit
import Derived.Carry
import Derived.Deep.Slices
import Derived.Lib.SmallJoins
/-! Alarms: the layer does something; in memory of their own. -/
namespace Go.Proofs.Ytdbamgbgnpadjaa
open Go Go.RowKit
theorem Hs.joinZ {w0 w w' : World} {L Y X Z : List Ob} (h : Hs w0 L w) (hb : Below w.heap.size w w') (hY : Hs w (Y ++ (X ++ Z)) w') (n : Nat) : Hs w0 (L.take n ++ (Y ++ (X ++ (Z ++ L.drop n)))) w' := by
 have := h.join hb hY n
 rwa [List.append_assoc, List.append_assoc] at this
theorem rng_eqRun (op : BinOp) (hop : op = .eql ∨ op = .neq) (x y : Operand) (a b : Rng) (r : Bool) (hr : r = (if op = .eql then decide (a = b) else !decide (a = b))) : EqRun Try.prog op 44 x y (.agg #[.int .i64 a.vcpu, .int .i64 a.port, .int .i64 a.at_, .int .i64 a.missed]) (.agg #[.int .i64 b.vcpu, .int .i64 b.port, .int .i64 b.at_, .int .i64 b.missed]) r := by
 intro w
 subst hr
 have hS : Try.prog.underlying 44 = some (.struct (Try.prog.fieldsOf 44)) := by kernel_rfl
 have hp : Try.prog.stoodInHeld 44 = false := by kernel_rfl
 have hg : Try.prog.eqGuardType Try.prog.depth 44 = false := by kernel_rfl
 have key : (Op.equal 44 (.agg #[.int .i64 a.vcpu, .int .i64 a.port, .int .i64 a.at_, .int .i64 a.missed]) (.agg #[.int .i64 b.vcpu, .int .i64 b.port, .int .i64 b.at_, .int .i64 b.missed])).run Try.prog w = .ok (decide (a = b)) w := by
  unfold Op.equal
  rw [show Op.maxDepth = 9999 + 1 from rfl, run_equalIn_struct w 9999 44 _ _ hS hp]
  simp only [Program.fieldsOf, Try.underlying44]
  go_simp
  obtain ⟨a0, a1, a2, a3⟩ := a
  obtain ⟨b0, b1, b2, b3⟩ := b
  simp only [Rng.mk.injEq]
  by_cases h0 : a0 = b0 <;> by_cases h1 : a1 = b1 <;> by_cases h2 : a2 = b2 <;> by_cases h3 : a3 = b3 <;> simp [h0, h1, h2, h3]
 have guard : (eqGuard op 44 x y (.agg #[.int .i64 a.vcpu, .int .i64 a.port, .int .i64 a.at_, .int .i64 a.missed]) (.agg #[.int .i64 b.vcpu, .int .i64 b.port, .int .i64 b.at_, .int .i64 b.missed])).run Try.prog w = .ok () w := by
  unfold eqGuard
  rcases hop with rfl | rfl <;> simp [hg]
 rw [Sem.run_bind, guard]
 simp only [Result.andThen_ok]
 rcases hop with rfl | rfl <;> simp [binOp, Sem.run_bind, key]
theorem rng_eq_t {x y : Operand} {a b : Rng} (h : a = b) : EqRun Try.prog .eql 44 x y (.agg #[.int .i64 a.vcpu, .int .i64 a.port, .int .i64 a.at_, .int .i64 a.missed]) (.agg #[.int .i64 b.vcpu, .int .i64 b.port, .int .i64 b.at_, .int .i64 b.missed]) true := rng_eqRun _ (.inl rfl) x y a b _ (by simp [h])
set_option maxRecDepth 100000 in
theorem awakes_t  (w : World)
 : Calls Try.prog 7 #[] w fun e w' => e = .returned (.bool true) ∧ Below w.heap.size w w' := by
 refine enter (Hs.start w) Try.func7 rfl Try.ntmps7 rfl (sq_ (qa0 [] [] [] (ds_ (sq_ (ao_ (qo0 2 [] [] [(10, .agg #[.int .i64 0, .slice none 0 0, .slice none 0 0]), (11, .agg #[.int .i64 2, .int .i64 5, .int .i64 1000])] (cP (fun v L' => ∃ q_ m_ c_ Y_ q2_ m2_ c2_ X_, v = .tuple #[.agg #[.int .i64 0, .slice q_ m_ c_, .slice q2_ m2_ c2_], .int .i64 0] ∧ L' = List.take 0 ([]) ++ (Y_ ++ (X_ ++ List.drop 0 ([]))) ∧ SlO 88 Y_ q_ m_ c_ ([⟨1, 1500⟩] : List Tim) ∧ SlO 47 X_ q2_ m2_ c2_ ([⟨2, 5, 1000⟩] : List Alm)) Try.call21 (fun w hw => by have := start_t 0 none 0 0 [] none 0 0 [] (⟨2, 5, 1000⟩ : Alm) 1500 w Sv.nil rfl (by omega) Sv.nil rfl (by omega); rw [vkw1] at this; exact this.mono fun e w' ⟨q_, m_, c_, Y_, q2_, m2_, c2_, X_, he, h1, h2, hb, hY⟩ => ⟨_, _, he, ⟨q_, m_, c_, Y_, q2_, m2_, c2_, X_, rfl, rfl, h1, h2⟩, hw.joinT hb hY 0⟩) ?_)))))))
 rintro v3 L3 ⟨q3, m3, c3, Y3, p3, k3, d3, Yx3, rfl, rfl, hO3, hP3⟩
 have hm3 := hO3.len
 have hn3 := hP3.len
 simp only [List.length_cons, List.length_nil] at hm3
 simp only [List.length_cons, List.length_nil] at hn3
 refine mo0 6 [(7, .go (owns 0 0 3))] [] (fun γ4 => [(1, .pointer (some ⟨γ4 0, 0, none⟩)), (2, .int .i64 0)]) (fun γ4 L => bx (γ4 0) (#[.int .i64 0, .slice q3 m3 c3, .slice p3 k3 d3]) 27 :: L) (fun γ4 => on_ (ds_ (sq_ (ao_ (qo0 1 [(0, .go (owns 0 0 3))] [2] [(16, .agg #[.int .i64 0, .slice q3 m3 c3, .slice p3 k3 d3])] (cP (fun v L' => ∃ q_ m_ c_ Y_ q2_ m2_ c2_ X_ q3_ m3_ c3_ Z_, v = .tuple #[.agg #[.int .i64 5000, .slice q_ m_ c_, .slice q2_ m2_ c2_], .slice q3_ m3_ c3_, .int .i64 0] ∧ L' = List.take 1 (bx (γ4 0) (#[.int .i64 0, .slice q3 m3 c3, .slice p3 k3 d3]) 27 :: (Y3 ++ (Yx3 ++ []))) ++ (Y_ ++ (X_ ++ (Z_ ++ List.drop 1 (bx (γ4 0) (#[.int .i64 0, .slice q3 m3 c3, .slice p3 k3 d3]) 27 :: (Y3 ++ (Yx3 ++ [])))))) ∧ SlO 88 Y_ q_ m_ c_ ([⟨1, 5500⟩] : List Tim) ∧ SlO 47 X_ q2_ m2_ c2_ ([⟨2, 5, 1000⟩] : List Alm) ∧ SlO 44 Z_ q3_ m3_ c3_ ([⟨2, 5, 1500, 3⟩] : List Rng)) Try.call10 (fun w hw => by have := apass_t 0 q3 m3 c3 (([⟨1, 1500⟩] : List Tim)) p3 k3 d3 (([⟨2, 5, 1000⟩] : List Alm)) 5000 w (hO3.atN (A := [_]) hw) hO3.len (by omega) (hP3.atN (A := (_ :: Y3)) hw) hP3.len (by omega); rw [vkw4, vkw5] at this; exact this.mono fun e w' ⟨q_, m_, c_, Y_, q2_, m2_, c2_, X_, q3_, m3_, c3_, Z_, he, h1, h2, h3, hb, hY⟩ => ⟨_, _, he, ⟨q_, m_, c_, Y_, q2_, m2_, c2_, X_, q3_, m3_, c3_, Z_, rfl, rfl, h1, h2, h3⟩, hw.joinZ hb hY 1⟩) ?_))))))
 rintro v6 L6 ⟨q6, m6, c6, Y6, p6, k6, d6, Yx6, pz6, kz6, dz6, Yz6, rfl, rfl, hO6, hP6, hZ6⟩
 have hm6 := hO6.len
 have hn6 := hP6.len
 have hz6 := hZ6.len
 simp only [List.length_cons, List.length_nil] at hm6
 simp only [List.length_cons, List.length_nil] at hn6
 simp only [List.length_cons, List.length_nil] at hz6
 refine mo0 8 [(7, .go (owns 0 0 3))] [2] (fun γ7 => [(3, .pointer (some ⟨γ7 0, 0, none⟩)), (4, .slice pz6 kz6 dz6), (5, .int .i64 0)]) (fun γ7 L => bx (γ7 0) (#[.int .i64 5000, .slice q6 m6 c6, .slice p6 k6 d6]) 27 :: L) (fun γ7 => on_ (ds_ (sq_ (ao_ (qo0 1 [(0, .go (owns 0 0 3))] [2, 4, 5] [(22, .agg #[.int .i64 5000, .slice q6 m6 c6, .slice p6 k6 d6])] (cD (.tuple #[.agg #[.int .i64 ((⟨2, 5, 1000⟩ : Alm).vcpu), .int .i64 ((⟨2, 5, 1000⟩ : Alm).port), .int .i64 ((⟨2, 5, 1000⟩ : Alm).every)], .int .i64 5500, .bool true]) Try.call14 (fun w hw => by have := aget_t 5000 q6 m6 c6 (([⟨1, 5500⟩] : List Tim)) p6 k6 d6 (([⟨2, 5, 1000⟩] : List Alm)) 2 w (hO6.atN (A := [_, _]) hw) hO6.len (by omega) (hP6.atN (A := (_ :: _ :: Y6)) hw) hP6.len (by omega) (by omega) (by omega); rw [vkw6] at this; exact this) (mo0 8 [(7, .go (owns 0 0 3))] [2, 4, 5] (fun γ9 => [(7, .int .i64 5500), (8, .bool true)]) (fun γ9 L => bx (γ9 0) (#[.int .i64 ((⟨2, 5, 1000⟩ : Alm).vcpu), .int .i64 ((⟨2, 5, 1000⟩ : Alm).port), .int .i64 ((⟨2, 5, 1000⟩ : Alm).every)]) 47 :: L) (fun γ9 => on_ (ds_ (sq_ (ao_ (qo0 14 [] [4] [(40, .bool true)] ?_))))))))))))
 by_cases q12 : ((kz6 : Nat) : Int) = (1 : Int)
 ·
  refine Ops.pick [[bx (γ9 0) (#[.int .i64 ((⟨2, 5, 1000⟩ : Alm).vcpu), .int .i64 ((⟨2, 5, 1000⟩ : Alm).port), .int .i64 ((⟨2, 5, 1000⟩ : Alm).every)]) 47], [bx (γ7 0) (#[.int .i64 5000, .slice q6 m6 c6, .slice p6 k6 d6]) 27], [bx (γ4 0) (#[.int .i64 0, .slice q3 m3 c3, .slice p3 k3 d3]) 27], Y6, Yx6, Yz6, Y3, Yx3] [0, 1, 2, 5, 3, 4, 6, 7] [] (bx (γ9 0) (#[.int .i64 ((⟨2, 5, 1000⟩ : Alm).vcpu), .int .i64 ((⟨2, 5, 1000⟩ : Alm).port), .int .i64 ((⟨2, 5, 1000⟩ : Alm).every)]) 47 :: bx (γ7 0) (#[.int .i64 5000, .slice q6 m6 c6, .slice p6 k6 d6]) 27 :: bx (γ4 0) (#[.int .i64 0, .slice q3 m3 c3, .slice p3 k3 d3]) 27 :: (Yz6 ++ (Y6 ++ (Yx6 ++ (Y3 ++ (Yx3 ++ [])))))) (by kernel_rfl) rfl rfl ?_
  have hln14 := hZ6.len
  obtain ⟨g14, cs14, rfl, rfl, hOw14⟩ := hZ6.rowOf (i := 0) (by omega)
  refine qo 12 [(16, .yes), (20, .at g14 0 0), (21, .go (ownps 3 (0 + 0 * 4) [.int .i64 ((⟨2, 5, 1500, 3⟩ : Rng).vcpu), .int .i64 ((⟨2, 5, 1500, 3⟩ : Rng).port), .int .i64 ((⟨2, 5, 1500, 3⟩ : Rng).at_), .int .i64 ((⟨2, 5, 1500, 3⟩ : Rng).missed)])), (23, .eqs true)] [] [(0, .bool true)] ([((kz6 : Nat) : Int) = (1 : Int)] ++ ([(some ⟨g14, 0, none⟩ : Option Addr) = some ⟨g14, 0, none⟩, 0 = ((0 : Nat) : Int), 0 < kz6] ++ (acellsP cs14 (0 + 0 * 4) [.int .i64 ((⟨2, 5, 1500, 3⟩ : Rng).vcpu), .int .i64 ((⟨2, 5, 1500, 3⟩ : Rng).port), .int .i64 ((⟨2, 5, 1500, 3⟩ : Rng).at_), .int .i64 ((⟨2, 5, 1500, 3⟩ : Rng).missed)] ++ ([EqRun Try.prog .eql 44 (.tmp 48) (.tmp 49) (.agg #[.int .i64 ((⟨2, 5, 1500, 3⟩ : Rng).vcpu), .int .i64 ((⟨2, 5, 1500, 3⟩ : Rng).port), .int .i64 ((⟨2, 5, 1500, 3⟩ : Rng).at_), .int .i64 ((⟨2, 5, 1500, 3⟩ : Rng).missed)]) (.agg #[.int .i64 2, .int .i64 5, .int .i64 1500, .int .i64 3]) true])))) (alA (al1 q12) (alA (al2 rfl (al2 rfl (al1 (by omega)))) (alA (rda_pre ((hOw14.rdx hZ6.len (by rfl))) _ rfl) (al1 (rng_eq_t (a := (⟨2, 5, 1500, 3⟩ : Rng)) (b := (⟨2, 5, 1500, 3⟩ : Rng)) rfl))))) (on_ (ds_ (rt ([]) (.bool true) ?_)))
  exact fun w' hw => ⟨rfl, hw.below⟩
 ·
  refine qo 12 [(16, .no)] [] [(0, .bool false)] ([¬ (((kz6 : Nat) : Int) = (1 : Int))]) (al1 q12) (on_ (ds_ (rt ([]) (.bool false) ?_)))
  exfalso; first | omega | (simp only [List.length_nil] at *; omega)

set_option maxRecDepth 100000 in
theorem copy_t (now : Int) (p : Option Addr) (n cap : Nat) (ts : List Tim) (pa : Option Addr) (na ca : Nat) (rs : List Alm) (w : World)
 (hts : Sv w p ts) (hn : n = ts.length) (hb : n ≤ 1000)
 (hrs : Sv w pa rs) (hna : na = rs.length) (hba : na ≤ 1000)
 : Calls Try.prog 26 #[.agg #[.int .i64 now, .slice p n cap, .slice pa na ca]] w fun e w' => ∃ q m c Y q2 m2 c2 X, e = .returned (.agg #[.int .i64 now, .slice q m c, .slice q2 m2 c2]) ∧ SlO 88 Y q m c ts ∧ SlO 47 X q2 m2 c2 rs ∧ Below w.heap.size w w' ∧ Hs w (Y ++ X) w' := by
 refine enter (Hs.start w) Try.func26 rfl Try.ntmps26 rfl (sq_ (ma0 [] [] (fun γ1 => [(1, .pointer (some ⟨γ1 0, 0, none⟩)), (2, .pointer (some ⟨γ1 1, 0, none⟩))]) (fun γ1 L => bx (γ1 1) (#[.int .i64 0, .slice none 0 0, .slice none 0 0]) 27 :: bx (γ1 0) (#[.int .i64 now, .slice p n cap, .slice pa na ca]) 27 :: L) (fun γ1 => ds_ (sq_ ?_))))
 refine at_any (by kernel_rfl) ?_
 refine tk (m := 11) [1, 2, 6] [] [1, 2] [(5, .pointer (some ⟨γ1 0, 1, none⟩)), (9, .pointer (some ⟨γ1 0, 2, none⟩))] ([]) #[false, true, true, false, false, false, true, false, false, false, false, false, false, false] al0 ?_
 refine any_cutX (V := (List Ob) × (List Ob) × (Nat) × (Nat) × (Option Addr) × (Option Addr) × (Nat → Nat) × (Nat → Nat)) (fun ⟨Y165, Y85, cap165, cap85, p165, p85, γ105, γ5⟩ => SlO 47 Y165 p165 (0 + na) cap165 ([] ++ rs) ∧ SlO 88 Y85 p85 (0 + n) cap85 ([] ++ ts)) 0 #[true, true, true, true, true, true, true, true, true, true, true, true, true, true] (fun ⟨Y165, Y85, cap165, cap85, p165, p85, γ105, γ5⟩ => [(1, .pointer (some ⟨γ1 0, 0, none⟩)), (2, .pointer (some ⟨γ1 1, 0, none⟩))]) (fun ⟨Y165, Y85, cap165, cap85, p165, p85, γ105, γ5⟩ => bx (γ1 1) (#[.int .i64 0, .slice none 0 0, .slice none 0 0]) 27 :: bx (γ1 0) (#[.int .i64 now, .slice p85 (0 + n) cap85, .slice p165 (0 + na) cap165]) 27 :: (Y165 ++ (Y85 ++ []))) ?_ (fun hmx22 => ?_)
 rotate_left
 ·
  refine any_cutX (V := (List Ob) × (List Ob) × (Nat) × (Nat) × (Option Addr) × (Option Addr) × (Nat → Nat) × (Nat → Nat)) (fun ⟨Y165, Y85, cap165, cap85, p165, p85, γ105, γ5⟩ => SlO 47 Y165 p165 (0 + na) cap165 ([] ++ rs) ∧ SlO 88 Y85 p85 (0 + n) cap85 ([] ++ ts)) 1 #[true, true, true, true, true, true, true, true, true, true, true, true, true, false] (fun ⟨Y165, Y85, cap165, cap85, p165, p85, γ105, γ5⟩ => [(1, .pointer (some ⟨γ1 0, 0, none⟩)), (2, .pointer (some ⟨γ1 1, 0, none⟩)), (11, .slice p165 (0 + na) cap165), (14, .pointer (some ⟨γ1 0, 2, none⟩))]) (fun ⟨Y165, Y85, cap165, cap85, p165, p85, γ105, γ5⟩ => bx (γ1 1) (#[.int .i64 0, .slice none 0 0, .slice none 0 0]) 27 :: bx (γ1 0) (#[.int .i64 now, .slice p85 (0 + n) cap85, .slice pa na ca]) 27 :: (Y165 ++ (Y85 ++ []))) ?_ (fun hmx21 => ?_)
  ·
   rintro ⟨Y165, Y85, cap165, cap85, p165, p85, γ105, γ5⟩ ⟨hO165, hO85⟩
   refine a1 13 rfl ?_
   refine mo0 1 [(13, .go (owns 1 2 1))] [1, 2] (fun _ => []) (fun _ L => (L.set 1 (bx (γ1 0) (#[.int .i64 now, .slice p85 (0 + n) cap85, .slice p165 (0 + na) cap165]) 27))) (fun _ => ?_)
   refine od_ ?_
   exact wk (hmx22 (Y165, Y85, cap165, cap85, p165, p85, γ105, γ5) ⟨hO165, hO85⟩) [1, 2] [[_], [_], _, _] [0, 1, 2, 3] rfl rfl
  refine any_cutX (V := (List Ob) × (List Ob) × (Nat) × (Nat) × (Option Addr) × (Option Addr) × (Nat → Nat) × (Nat → Nat)) (fun ⟨Y165, Y85, cap165, cap85, p165, p85, γ105, γ5⟩ => SlO 47 Y165 p165 (0 + na) cap165 ([] ++ rs) ∧ SlO 88 Y85 p85 (0 + n) cap85 ([] ++ ts)) 3 #[true, true, true, true, true, true, true, true, true, true, true, false, false, false] (fun ⟨Y165, Y85, cap165, cap85, p165, p85, γ105, γ5⟩ => [(1, .pointer (some ⟨γ1 0, 0, none⟩)), (2, .pointer (some ⟨γ1 1, 0, none⟩)), (7, .slice p85 (0 + n) cap85), (11, .slice p165 (0 + na) cap165), (13, .pointer (some ⟨γ1 0, 1, none⟩))]) (fun ⟨Y165, Y85, cap165, cap85, p165, p85, γ105, γ5⟩ => bx (γ1 1) (#[.int .i64 0, .slice none 0 0, .slice none 0 0]) 27 :: bx (γ1 0) (#[.int .i64 now, .slice p n cap, .slice pa na ca]) 27 :: (Y165 ++ (Y85 ++ []))) ?_ (fun hmx20 => ?_)
  ·
   rintro ⟨Y165, Y85, cap165, cap85, p165, p85, γ105, γ5⟩ ⟨hO165, hO85⟩
   refine a1 11 rfl ?_
   refine mo0 1 [(11, .go (owns 1 1 1))] [1, 2, 11] (fun _ => []) (fun _ L => (L.set 1 (bx (γ1 0) (#[.int .i64 now, .slice p85 (0 + n) cap85, .slice pa na ca]) 27))) (fun _ => ?_)
   refine od_ ?_
   refine tk (m := 1) [12] [] [1, 2, 11] [(14, .pointer (some ⟨γ1 0, 2, none⟩))] ([]) #[true, true, true, true, true, true, true, true, true, true, true, true, true, false] al0 ?_
   exact wk (hmx21 (Y165, Y85, cap165, cap85, p165, p85, γ105, γ5) ⟨hO165, hO85⟩) [1, 2, 11, 14] [[_], [_], _, _] [0, 1, 2, 3] rfl rfl
  refine any_cutX (V := (List Ob) × (Nat) × (Option Addr) × (Nat → Nat) × (Nat → Nat)) (fun ⟨Y85, cap85, p85, γ105, γ5⟩ => SlO 88 Y85 p85 (0 + n) cap85 ([] ++ ts)) 4 #[true, true, true, true, true, true, true, true, false, true, true, false, false, false] (fun ⟨Y85, cap85, p85, γ105, γ5⟩ => [(1, .pointer (some ⟨γ1 0, 0, none⟩)), (2, .pointer (some ⟨γ1 1, 0, none⟩)), (7, .slice p85 (0 + n) cap85), (8, .slice (some ⟨γ105 0, 0, none⟩) 0 0), (10, .slice pa na ca), (13, .pointer (some ⟨γ1 0, 1, none⟩))]) (fun ⟨Y85, cap85, p85, γ105, γ5⟩ => bx (γ105 0) (#[]) 47 :: bx (γ1 1) (#[.int .i64 0, .slice none 0 0, .slice none 0 0]) 27 :: bx (γ1 0) (#[.int .i64 now, .slice p n cap, .slice pa na ca]) 27 :: (Y85 ++ [])) ?_ (fun hmx19 => ?_)
  ·
   rintro ⟨Y85, cap85, p85, γ105, γ5⟩ hO85
   refine a1 8 rfl ?_
   refine ops_append (α := Alm) [bx (γ1 1) (#[.int .i64 0, .slice none 0 0, .slice none 0 0]) 27, bx (γ1 0) (#[.int .i64 now, .slice p n cap, .slice pa na ca]) 27] ([bx (γ105 0) (#[]) 47]) ((Y85 ++ [])) (mvE rfl) rfl (by kernel_rfl) (by kernel_rfl) (p := (some ⟨γ105 0, 0, none⟩)) (n := 0) (cap := 0) (m := na) (yv := .slice pa na ca) (by kernel_rfl) (by kernel_rfl) (T := 47) (by_ := 24) (by kernel_rfl) ([]) rs (SlO.lit (by rfl) (by rfl) (by simp [maxLen])) (fun w hw => src_svn Try.underlying25 (hrs.kept hw.below) hna) hna (by have hmx : maxLen = 9223372036854775807 := rfl; omega) (by have hmx : maxLen = 9223372036854775807 := rfl; omega) (fun Y165 p165 cap165 hO165 => ?_)
   refine od_ ?_
   exact wk (hmx20 (Y165, Y85, cap165, cap85, p165, p85, γ105, γ5) ⟨hO165, hO85⟩) [1, 2, 7, 11, 13] [[_], [_], _, _] [0, 1, 2, 3] rfl rfl
  refine any_cutX (V := (List Ob) × (Nat) × (Option Addr) × (Nat → Nat)) (fun ⟨Y85, cap85, p85, γ5⟩ => SlO 88 Y85 p85 (0 + n) cap85 ([] ++ ts)) 5 #[true, true, true, true, true, false, true, true, false, true, true, false, false, false] (fun ⟨Y85, cap85, p85, γ5⟩ => [(1, .pointer (some ⟨γ1 0, 0, none⟩)), (2, .pointer (some ⟨γ1 1, 0, none⟩)), (7, .slice p85 (0 + n) cap85), (10, .slice pa na ca), (13, .pointer (some ⟨γ1 0, 1, none⟩))]) (fun ⟨Y85, cap85, p85, γ5⟩ => bx (γ1 1) (#[.int .i64 0, .slice none 0 0, .slice none 0 0]) 27 :: bx (γ1 0) (#[.int .i64 now, .slice p n cap, .slice pa na ca]) 27 :: (Y85 ++ [])) ?_ (fun hmx18 => ?_)
  ·
   rintro ⟨Y85, cap85, p85, γ5⟩ hO85
   refine a1 5 rfl ?_
   refine mo0 1 [] [1, 2, 7, 10, 13] (fun γ105 => [(8, .slice (some ⟨γ105 0, 0, none⟩) 0 0)]) (fun γ105 L => bx (γ105 0) (#[]) 47 :: L) (fun γ105 => ?_)
   refine od_ ?_
   exact wk (hmx19 (Y85, cap85, p85, γ105, γ5) hO85) [1, 2, 7, 8, 10, 13] [[_], [_], [_], _] [0, 1, 2, 3] rfl rfl
  refine any_cutX (V := (Nat → Nat) × (Nat → Nat)) (fun ⟨γ105, γ5⟩ => True) 7 #[true, true, true, true, false, true, true, true, false, false, false, false, false, false] (fun ⟨γ105, γ5⟩ => [(1, .pointer (some ⟨γ1 0, 0, none⟩)), (2, .pointer (some ⟨γ1 1, 0, none⟩)), (3, .slice (some ⟨γ5 0, 0, none⟩) 0 0), (6, .slice p n cap), (8, .slice (some ⟨γ105 0, 0, none⟩) 0 0), (10, .slice pa na ca)]) (fun ⟨γ105, γ5⟩ => [bx (γ105 0) (#[]) 47, bx (γ5 0) (#[]) 88, bx (γ1 1) (#[.int .i64 0, .slice none 0 0, .slice none 0 0]) 27, bx (γ1 0) (#[.int .i64 now, .slice p n cap, .slice pa na ca]) 27]) ?_ (fun hmx17 => ?_)
  ·
   rintro ⟨γ105, γ5⟩ _
   refine a1 4 rfl ?_
   refine Ops.pick [[bx (γ105 0) (#[]) 47], [bx (γ5 0) (#[]) 88], [bx (γ1 1) (#[.int .i64 0, .slice none 0 0, .slice none 0 0]) 27], [bx (γ1 0) (#[.int .i64 now, .slice p n cap, .slice pa na ca]) 27]] [1, 0, 2, 3] [] ([bx (γ5 0) (#[]) 88, bx (γ105 0) (#[]) 47, bx (γ1 1) (#[.int .i64 0, .slice none 0 0, .slice none 0 0]) 27, bx (γ1 0) (#[.int .i64 now, .slice p n cap, .slice pa na ca]) 27]) (by kernel_rfl) rfl rfl (ops_append (α := Tim) [bx (γ105 0) (#[]) 47, bx (γ1 1) (#[.int .i64 0, .slice none 0 0, .slice none 0 0]) 27, bx (γ1 0) (#[.int .i64 now, .slice p n cap, .slice pa na ca]) 27] ([bx (γ5 0) (#[]) 88]) ([]) (mvE rfl) rfl (by kernel_rfl) (by kernel_rfl) (p := (some ⟨γ5 0, 0, none⟩)) (n := 0) (cap := 0) (m := n) (yv := .slice p n cap) (by kernel_rfl) (by kernel_rfl) (T := 88) (by_ := 16) (by kernel_rfl) ([]) ts (SlO.lit (by rfl) (by rfl) (by simp [maxLen])) (fun w hw => src_svn Try.underlying22 (hts.kept hw.below) hn) hn (by have hmx : maxLen = 9223372036854775807 := rfl; omega) (by have hmx : maxLen = 9223372036854775807 := rfl; omega) (fun Y85 p85 cap85 hO85 => ?_))
   refine od_ ?_
   refine tk (m := 4) [9, 10] [] [1, 2, 7, 8, 10] [(13, .pointer (some ⟨γ1 0, 1, none⟩))] ([]) #[true, true, true, true, true, true, true, true, false, true, true, false, false, false] al0 ?_
   exact wk (hmx19 (Y85, cap85, p85, γ105, γ5) hO85) [1, 2, 7, 8, 10, 13] [[_], [_], [_], _] [0, 1, 2, 3] rfl rfl
  refine any_cutX (V := (List Ob) × (Nat) × (Option Addr) × (Nat → Nat) × (Nat → Nat)) (fun ⟨Y85, cap85, p85, γ105, γ5⟩ => SlO 88 Y85 p85 (0 + n) cap85 ([] ++ ts)) 7 #[true, true, true, true, true, true, true, false, false, false, false, false, false, false] (fun ⟨Y85, cap85, p85, γ105, γ5⟩ => [(1, .pointer (some ⟨γ1 0, 0, none⟩)), (2, .pointer (some ⟨γ1 1, 0, none⟩)), (7, .slice p85 (0 + n) cap85), (8, .slice (some ⟨γ105 0, 0, none⟩) 0 0), (9, .pointer (some ⟨γ1 0, 2, none⟩))]) (fun ⟨Y85, cap85, p85, γ105, γ5⟩ => bx (γ105 0) (#[]) 47 :: bx (γ1 1) (#[.int .i64 0, .slice none 0 0, .slice none 0 0]) 27 :: bx (γ1 0) (#[.int .i64 now, .slice p n cap, .slice pa na ca]) 27 :: (Y85 ++ [])) ?_ (fun hmx16 => ?_)
  ·
   rintro ⟨Y85, cap85, p85, γ105, γ5⟩ hO85
   refine a1 7 rfl ?_
   refine qo0 1 [(7, .go (owns 2 2 1))] [1, 2, 7, 8] [(10, .slice pa na ca)] ?_
   refine od_ ?_
   refine tk (m := 4) [9, 10] [] [1, 2, 7, 8, 10] [(13, .pointer (some ⟨γ1 0, 1, none⟩))] ([]) #[true, true, true, true, true, true, true, true, false, true, true, false, false, false] al0 ?_
   exact wk (hmx19 (Y85, cap85, p85, γ105, γ5) hO85) [1, 2, 7, 8, 10, 13] [[_], [_], [_], _] [0, 1, 2, 3] rfl rfl
  refine any_cutX (V := (Nat → Nat)) (fun γ105 => True) 8 #[false, true, true, true, false, true, true, true, false, false, false, false, false, false] (fun γ105 => [(1, .pointer (some ⟨γ1 0, 0, none⟩)), (2, .pointer (some ⟨γ1 1, 0, none⟩)), (6, .slice p n cap), (8, .slice (some ⟨γ105 0, 0, none⟩) 0 0), (10, .slice pa na ca)]) (fun γ105 => [bx (γ105 0) (#[]) 47, bx (γ1 1) (#[.int .i64 0, .slice none 0 0, .slice none 0 0]) 27, bx (γ1 0) (#[.int .i64 now, .slice p n cap, .slice pa na ca]) 27]) ?_ (fun hmx15 => ?_)
  ·
   rintro γ105 _
   refine a1 0 rfl ?_
   refine mo0 1 [] [1, 2, 6, 8, 10] (fun γ5 => [(3, .slice (some ⟨γ5 0, 0, none⟩) 0 0)]) (fun γ5 L => bx (γ5 0) (#[]) 88 :: L) (fun γ5 => ?_)
   refine od_ ?_
   exact wk (hmx17 (γ105, γ5) trivial) [1, 2, 3, 6, 8, 10] [[_], [_], [_], [_]] [1, 0, 2, 3] rfl rfl
  refine any_cutX (V := (Nat → Nat) × (Nat → Nat)) (fun ⟨γ105, γ5⟩ => True) 8 #[true, true, true, false, false, true, true, true, false, false, false, false, false, false] (fun ⟨γ105, γ5⟩ => [(1, .pointer (some ⟨γ1 0, 0, none⟩)), (2, .pointer (some ⟨γ1 1, 0, none⟩)), (3, .slice (some ⟨γ5 0, 0, none⟩) 0 0), (5, .pointer (some ⟨γ1 0, 1, none⟩)), (8, .slice (some ⟨γ105 0, 0, none⟩) 0 0), (10, .slice pa na ca)]) (fun ⟨γ105, γ5⟩ => [bx (γ105 0) (#[]) 47, bx (γ5 0) (#[]) 88, bx (γ1 1) (#[.int .i64 0, .slice none 0 0, .slice none 0 0]) 27, bx (γ1 0) (#[.int .i64 now, .slice p n cap, .slice pa na ca]) 27]) ?_ (fun hmx14 => ?_)
  ·
   rintro ⟨γ105, γ5⟩ _
   refine a1 3 rfl ?_
   refine qo0 1 [(3, .go (owns 3 1 1))] [1, 2, 3, 8, 10] [(6, .slice p n cap)] ?_
   refine od_ ?_
   exact wk (hmx17 (γ105, γ5) trivial) [1, 2, 3, 6, 8, 10] [[_], [_], [_], [_]] [0, 1, 2, 3] rfl rfl
  refine any_cutX (V := (Nat → Nat)) (fun γ5 => True) 8 #[true, true, true, true, false, false, true, true, false, false, false, false, false, false] (fun γ5 => [(1, .pointer (some ⟨γ1 0, 0, none⟩)), (2, .pointer (some ⟨γ1 1, 0, none⟩)), (3, .slice (some ⟨γ5 0, 0, none⟩) 0 0), (6, .slice p n cap), (10, .slice pa na ca)]) (fun γ5 => [bx (γ5 0) (#[]) 88, bx (γ1 1) (#[.int .i64 0, .slice none 0 0, .slice none 0 0]) 27, bx (γ1 0) (#[.int .i64 now, .slice p n cap, .slice pa na ca]) 27]) ?_ (fun hmx13 => ?_)
  ·
   rintro γ5 _
   refine any_fork [4, 5] (by kernel_rfl) (by simp) (each_cons _ rfl ?_ (each_cons _ rfl ?_ (each_nil)))
   ·
    refine ops_append (α := Tim) [bx (γ1 1) (#[.int .i64 0, .slice none 0 0, .slice none 0 0]) 27, bx (γ1 0) (#[.int .i64 now, .slice p n cap, .slice pa na ca]) 27] ([bx (γ5 0) (#[]) 88]) ([]) (mvE rfl) rfl (by kernel_rfl) (by kernel_rfl) (p := (some ⟨γ5 0, 0, none⟩)) (n := 0) (cap := 0) (m := n) (yv := .slice p n cap) (by kernel_rfl) (by kernel_rfl) (T := 88) (by_ := 16) (by kernel_rfl) ([]) ts (SlO.lit (by rfl) (by rfl) (by simp [maxLen])) (fun w hw => src_svn Try.underlying22 (hts.kept hw.below) hn) hn (by have hmx : maxLen = 9223372036854775807 := rfl; omega) (by have hmx : maxLen = 9223372036854775807 := rfl; omega) (fun Y85 p85 cap85 hO85 => ?_)
    refine od_ ?_
    refine tk (m := 5) [9, 10] [] [1, 2, 7, 10] [(13, .pointer (some ⟨γ1 0, 1, none⟩))] ([]) #[true, true, true, true, true, false, true, true, false, true, true, false, false, false] al0 ?_
    exact wk (hmx18 (Y85, cap85, p85, γ5) hO85) [1, 2, 7, 10, 13] [[_], [_], _] [0, 1, 2] rfl rfl
   ·
    refine mo0 1 [] [1, 2, 3, 6, 10] (fun γ105 => [(8, .slice (some ⟨γ105 0, 0, none⟩) 0 0)]) (fun γ105 L => bx (γ105 0) (#[]) 47 :: L) (fun γ105 => ?_)
    refine od_ ?_
    exact wk (hmx17 (γ105, γ5) trivial) [1, 2, 3, 6, 8, 10] [[_], [_], [_], [_]] [0, 1, 2, 3] rfl rfl
  refine any_cutX (V := (Nat → Nat) × (Nat → Nat)) (fun ⟨γ105, γ5⟩ => True) 8 #[true, true, true, true, false, true, true, false, false, false, false, false, false, false] (fun ⟨γ105, γ5⟩ => [(1, .pointer (some ⟨γ1 0, 0, none⟩)), (2, .pointer (some ⟨γ1 1, 0, none⟩)), (3, .slice (some ⟨γ5 0, 0, none⟩) 0 0), (6, .slice p n cap), (8, .slice (some ⟨γ105 0, 0, none⟩) 0 0), (9, .pointer (some ⟨γ1 0, 2, none⟩))]) (fun ⟨γ105, γ5⟩ => [bx (γ105 0) (#[]) 47, bx (γ5 0) (#[]) 88, bx (γ1 1) (#[.int .i64 0, .slice none 0 0, .slice none 0 0]) 27, bx (γ1 0) (#[.int .i64 now, .slice p n cap, .slice pa na ca]) 27]) ?_ (fun hmx12 => ?_)
  ·
   rintro ⟨γ105, γ5⟩ _
   refine any_fork [4, 7] (by kernel_rfl) (by simp) (each_cons _ rfl ?_ (each_cons _ rfl ?_ (each_nil)))
   ·
    refine Ops.pick [[bx (γ105 0) (#[]) 47], [bx (γ5 0) (#[]) 88], [bx (γ1 1) (#[.int .i64 0, .slice none 0 0, .slice none 0 0]) 27], [bx (γ1 0) (#[.int .i64 now, .slice p n cap, .slice pa na ca]) 27]] [1, 0, 2, 3] [] ([bx (γ5 0) (#[]) 88, bx (γ105 0) (#[]) 47, bx (γ1 1) (#[.int .i64 0, .slice none 0 0, .slice none 0 0]) 27, bx (γ1 0) (#[.int .i64 now, .slice p n cap, .slice pa na ca]) 27]) (by kernel_rfl) rfl rfl (ops_append (α := Tim) [bx (γ105 0) (#[]) 47, bx (γ1 1) (#[.int .i64 0, .slice none 0 0, .slice none 0 0]) 27, bx (γ1 0) (#[.int .i64 now, .slice p n cap, .slice pa na ca]) 27] ([bx (γ5 0) (#[]) 88]) ([]) (mvE rfl) rfl (by kernel_rfl) (by kernel_rfl) (p := (some ⟨γ5 0, 0, none⟩)) (n := 0) (cap := 0) (m := n) (yv := .slice p n cap) (by kernel_rfl) (by kernel_rfl) (T := 88) (by_ := 16) (by kernel_rfl) ([]) ts (SlO.lit (by rfl) (by rfl) (by simp [maxLen])) (fun w hw => src_svn Try.underlying22 (hts.kept hw.below) hn) hn (by have hmx : maxLen = 9223372036854775807 := rfl; omega) (by have hmx : maxLen = 9223372036854775807 := rfl; omega) (fun Y85 p85 cap85 hO85 => ?_))
    refine od_ ?_
    exact wk (hmx16 (Y85, cap85, p85, γ105, γ5) hO85) [1, 2, 7, 8, 9] [[_], [_], [_], _] [0, 1, 2, 3] rfl rfl
   ·
    refine qo0 1 [(7, .go (owns 3 2 1))] [1, 2, 3, 6, 8] [(10, .slice pa na ca)] ?_
    refine od_ ?_
    exact wk (hmx17 (γ105, γ5) trivial) [1, 2, 3, 6, 8, 10] [[_], [_], [_], [_]] [0, 1, 2, 3] rfl rfl
  refine any_cutX (V := (List Ob) × (Nat) × (Option Addr) × (Nat → Nat)) (fun ⟨Y85, cap85, p85, γ5⟩ => SlO 88 Y85 p85 (0 + n) cap85 ([] ++ ts)) 8 #[true, true, true, true, true, false, true, false, false, false, false, false, false, false] (fun ⟨Y85, cap85, p85, γ5⟩ => [(1, .pointer (some ⟨γ1 0, 0, none⟩)), (2, .pointer (some ⟨γ1 1, 0, none⟩)), (7, .slice p85 (0 + n) cap85), (9, .pointer (some ⟨γ1 0, 2, none⟩))]) (fun ⟨Y85, cap85, p85, γ5⟩ => bx (γ1 1) (#[.int .i64 0, .slice none 0 0, .slice none 0 0]) 27 :: bx (γ1 0) (#[.int .i64 now, .slice p n cap, .slice pa na ca]) 27 :: (Y85 ++ [])) ?_ (fun hmx11 => ?_)
  ·
   rintro ⟨Y85, cap85, p85, γ5⟩ hO85
   refine any_fork [5, 7] (by kernel_rfl) (by simp) (each_cons _ rfl ?_ (each_cons _ rfl ?_ (each_nil)))
   ·
    refine mo0 1 [] [1, 2, 7, 9] (fun γ105 => [(8, .slice (some ⟨γ105 0, 0, none⟩) 0 0)]) (fun γ105 L => bx (γ105 0) (#[]) 47 :: L) (fun γ105 => ?_)
    refine od_ ?_
    exact wk (hmx16 (Y85, cap85, p85, γ105, γ5) hO85) [1, 2, 7, 8, 9] [[_], [_], [_], _] [0, 1, 2, 3] rfl rfl
   ·
    refine qo0 1 [(7, .go (owns 1 2 1))] [1, 2, 7] [(10, .slice pa na ca)] ?_
    refine od_ ?_
    refine tk (m := 5) [9, 10] [] [1, 2, 7, 10] [(13, .pointer (some ⟨γ1 0, 1, none⟩))] ([]) #[true, true, true, true, true, false, true, true, false, true, true, false, false, false] al0 ?_
    exact wk (hmx18 (Y85, cap85, p85, γ5) hO85) [1, 2, 7, 10, 13] [[_], [_], _] [0, 1, 2] rfl rfl
  refine any_cutX (V := (Nat → Nat)) (fun γ105 => True) 9 #[false, true, true, false, false, true, true, true, false, false, false, false, false, false] (fun γ105 => [(1, .pointer (some ⟨γ1 0, 0, none⟩)), (2, .pointer (some ⟨γ1 1, 0, none⟩)), (5, .pointer (some ⟨γ1 0, 1, none⟩)), (8, .slice (some ⟨γ105 0, 0, none⟩) 0 0), (10, .slice pa na ca)]) (fun γ105 => [bx (γ105 0) (#[]) 47, bx (γ1 1) (#[.int .i64 0, .slice none 0 0, .slice none 0 0]) 27, bx (γ1 0) (#[.int .i64 now, .slice p n cap, .slice pa na ca]) 27]) ?_ (fun hmx10 => ?_)
  ·
   rintro γ105 _
   refine any_fork [0, 3] (by kernel_rfl) (by simp) (each_cons _ rfl ?_ (each_cons _ rfl ?_ (each_nil)))
   ·
    refine mo0 1 [] [1, 2, 5, 8, 10] (fun γ5 => [(3, .slice (some ⟨γ5 0, 0, none⟩) 0 0)]) (fun γ5 L => bx (γ5 0) (#[]) 88 :: L) (fun γ5 => ?_)
    refine od_ ?_
    exact wk (hmx14 (γ105, γ5) trivial) [1, 2, 3, 5, 8, 10] [[_], [_], [_], [_]] [1, 0, 2, 3] rfl rfl
   ·
    refine qo0 1 [(3, .go (owns 2 1 1))] [1, 2, 8, 10] [(6, .slice p n cap)] ?_
    refine od_ ?_
    exact wk (hmx15 γ105 trivial) [1, 2, 6, 8, 10] [[_], [_], [_]] [0, 1, 2] rfl rfl
  refine any_cutX (V := Unit) (fun _ => True) 9 #[false, true, true, true, false, false, true, true, false, false, false, false, false, false] (fun _ => [(1, .pointer (some ⟨γ1 0, 0, none⟩)), (2, .pointer (some ⟨γ1 1, 0, none⟩)), (6, .slice p n cap), (10, .slice pa na ca)]) (fun _ => [bx (γ1 1) (#[.int .i64 0, .slice none 0 0, .slice none 0 0]) 27, bx (γ1 0) (#[.int .i64 now, .slice p n cap, .slice pa na ca]) 27]) ?_ (fun hmx9 => ?_)
  ·
   rintro _ _
   refine any_fork [0, 5] (by kernel_rfl) (by simp) (each_cons _ rfl ?_ (each_cons _ rfl ?_ (each_nil)))
   ·
    refine mo0 1 [] [1, 2, 6, 10] (fun γ5 => [(3, .slice (some ⟨γ5 0, 0, none⟩) 0 0)]) (fun γ5 L => bx (γ5 0) (#[]) 88 :: L) (fun γ5 => ?_)
    refine od_ ?_
    exact wk (hmx13 γ5 trivial) [1, 2, 3, 6, 10] [[_], [_], [_]] [0, 1, 2] rfl rfl
   ·
    refine mo0 1 [] [1, 2, 6, 10] (fun γ105 => [(8, .slice (some ⟨γ105 0, 0, none⟩) 0 0)]) (fun γ105 L => bx (γ105 0) (#[]) 47 :: L) (fun γ105 => ?_)
    refine od_ ?_
    exact wk (hmx15 γ105 trivial) [1, 2, 6, 8, 10] [[_], [_], [_]] [0, 1, 2] rfl rfl
  refine any_cutX (V := (Nat → Nat)) (fun γ105 => True) 9 #[false, true, true, true, false, true, true, false, false, false, false, false, false, false] (fun γ105 => [(1, .pointer (some ⟨γ1 0, 0, none⟩)), (2, .pointer (some ⟨γ1 1, 0, none⟩)), (6, .slice p n cap), (8, .slice (some ⟨γ105 0, 0, none⟩) 0 0), (9, .pointer (some ⟨γ1 0, 2, none⟩))]) (fun γ105 => [bx (γ105 0) (#[]) 47, bx (γ1 1) (#[.int .i64 0, .slice none 0 0, .slice none 0 0]) 27, bx (γ1 0) (#[.int .i64 now, .slice p n cap, .slice pa na ca]) 27]) ?_ (fun hmx8 => ?_)
  ·
   rintro γ105 _
   refine any_fork [0, 7] (by kernel_rfl) (by simp) (each_cons _ rfl ?_ (each_cons _ rfl ?_ (each_nil)))
   ·
    refine mo0 1 [] [1, 2, 6, 8, 9] (fun γ5 => [(3, .slice (some ⟨γ5 0, 0, none⟩) 0 0)]) (fun γ5 L => bx (γ5 0) (#[]) 88 :: L) (fun γ5 => ?_)
    refine od_ ?_
    exact wk (hmx12 (γ105, γ5) trivial) [1, 2, 3, 6, 8, 9] [[_], [_], [_], [_]] [1, 0, 2, 3] rfl rfl
   ·
    refine qo0 1 [(7, .go (owns 2 2 1))] [1, 2, 6, 8] [(10, .slice pa na ca)] ?_
    refine od_ ?_
    exact wk (hmx15 γ105 trivial) [1, 2, 6, 8, 10] [[_], [_], [_]] [0, 1, 2] rfl rfl
  refine any_cutX (V := (Nat → Nat)) (fun γ5 => True) 9 #[true, true, true, false, false, false, true, true, false, false, false, false, false, false] (fun γ5 => [(1, .pointer (some ⟨γ1 0, 0, none⟩)), (2, .pointer (some ⟨γ1 1, 0, none⟩)), (3, .slice (some ⟨γ5 0, 0, none⟩) 0 0), (5, .pointer (some ⟨γ1 0, 1, none⟩)), (10, .slice pa na ca)]) (fun γ5 => [bx (γ5 0) (#[]) 88, bx (γ1 1) (#[.int .i64 0, .slice none 0 0, .slice none 0 0]) 27, bx (γ1 0) (#[.int .i64 now, .slice p n cap, .slice pa na ca]) 27]) ?_ (fun hmx7 => ?_)
  ·
   rintro γ5 _
   refine any_fork [3, 5] (by kernel_rfl) (by simp) (each_cons _ rfl ?_ (each_cons _ rfl ?_ (each_nil)))
   ·
    refine qo0 1 [(3, .go (owns 2 1 1))] [1, 2, 3, 10] [(6, .slice p n cap)] ?_
    refine od_ ?_
    exact wk (hmx13 γ5 trivial) [1, 2, 3, 6, 10] [[_], [_], [_]] [0, 1, 2] rfl rfl
   ·
    refine mo0 1 [] [1, 2, 3, 5, 10] (fun γ105 => [(8, .slice (some ⟨γ105 0, 0, none⟩) 0 0)]) (fun γ105 L => bx (γ105 0) (#[]) 47 :: L) (fun γ105 => ?_)
    refine od_ ?_
    exact wk (hmx14 (γ105, γ5) trivial) [1, 2, 3, 5, 8, 10] [[_], [_], [_], [_]] [0, 1, 2, 3] rfl rfl
  refine any_cutX (V := (Nat → Nat) × (Nat → Nat)) (fun ⟨γ105, γ5⟩ => True) 9 #[true, true, true, false, false, true, true, false, false, false, false, false, false, false] (fun ⟨γ105, γ5⟩ => [(1, .pointer (some ⟨γ1 0, 0, none⟩)), (2, .pointer (some ⟨γ1 1, 0, none⟩)), (3, .slice (some ⟨γ5 0, 0, none⟩) 0 0), (5, .pointer (some ⟨γ1 0, 1, none⟩)), (8, .slice (some ⟨γ105 0, 0, none⟩) 0 0), (9, .pointer (some ⟨γ1 0, 2, none⟩))]) (fun ⟨γ105, γ5⟩ => [bx (γ105 0) (#[]) 47, bx (γ5 0) (#[]) 88, bx (γ1 1) (#[.int .i64 0, .slice none 0 0, .slice none 0 0]) 27, bx (γ1 0) (#[.int .i64 now, .slice p n cap, .slice pa na ca]) 27]) ?_ (fun hmx6 => ?_)
  ·
   rintro ⟨γ105, γ5⟩ _
   refine any_fork [3, 7] (by kernel_rfl) (by simp) (each_cons _ rfl ?_ (each_cons _ rfl ?_ (each_nil)))
   ·
    refine qo0 1 [(3, .go (owns 3 1 1))] [1, 2, 3, 8, 9] [(6, .slice p n cap)] ?_
    refine od_ ?_
    exact wk (hmx12 (γ105, γ5) trivial) [1, 2, 3, 6, 8, 9] [[_], [_], [_], [_]] [0, 1, 2, 3] rfl rfl
   ·
    refine qo0 1 [(7, .go (owns 3 2 1))] [1, 2, 3, 5, 8] [(10, .slice pa na ca)] ?_
    refine od_ ?_
    exact wk (hmx14 (γ105, γ5) trivial) [1, 2, 3, 5, 8, 10] [[_], [_], [_], [_]] [0, 1, 2, 3] rfl rfl
  refine any_cutX (V := (Nat → Nat)) (fun γ5 => True) 9 #[true, true, true, true, false, false, true, false, false, false, false, false, false, false] (fun γ5 => [(1, .pointer (some ⟨γ1 0, 0, none⟩)), (2, .pointer (some ⟨γ1 1, 0, none⟩)), (3, .slice (some ⟨γ5 0, 0, none⟩) 0 0), (6, .slice p n cap), (9, .pointer (some ⟨γ1 0, 2, none⟩))]) (fun γ5 => [bx (γ5 0) (#[]) 88, bx (γ1 1) (#[.int .i64 0, .slice none 0 0, .slice none 0 0]) 27, bx (γ1 0) (#[.int .i64 now, .slice p n cap, .slice pa na ca]) 27]) ?_ (fun hmx5 => ?_)
  ·
   rintro γ5 _
   refine any_fork [4, 5, 7] (by kernel_rfl) (by simp) (each_cons _ rfl ?_ (each_cons _ rfl ?_ (each_cons _ rfl ?_ (each_nil))))
   ·
    refine ops_append (α := Tim) [bx (γ1 1) (#[.int .i64 0, .slice none 0 0, .slice none 0 0]) 27, bx (γ1 0) (#[.int .i64 now, .slice p n cap, .slice pa na ca]) 27] ([bx (γ5 0) (#[]) 88]) ([]) (mvE rfl) rfl (by kernel_rfl) (by kernel_rfl) (p := (some ⟨γ5 0, 0, none⟩)) (n := 0) (cap := 0) (m := n) (yv := .slice p n cap) (by kernel_rfl) (by kernel_rfl) (T := 88) (by_ := 16) (by kernel_rfl) ([]) ts (SlO.lit (by rfl) (by rfl) (by simp [maxLen])) (fun w hw => src_svn Try.underlying22 (hts.kept hw.below) hn) hn (by have hmx : maxLen = 9223372036854775807 := rfl; omega) (by have hmx : maxLen = 9223372036854775807 := rfl; omega) (fun Y85 p85 cap85 hO85 => ?_)
    refine od_ ?_
    exact wk (hmx11 (Y85, cap85, p85, γ5) hO85) [1, 2, 7, 9] [[_], [_], _] [0, 1, 2] rfl rfl
   ·
    refine mo0 1 [] [1, 2, 3, 6, 9] (fun γ105 => [(8, .slice (some ⟨γ105 0, 0, none⟩) 0 0)]) (fun γ105 L => bx (γ105 0) (#[]) 47 :: L) (fun γ105 => ?_)
    refine od_ ?_
    exact wk (hmx12 (γ105, γ5) trivial) [1, 2, 3, 6, 8, 9] [[_], [_], [_], [_]] [0, 1, 2, 3] rfl rfl
   ·
    refine qo0 1 [(7, .go (owns 2 2 1))] [1, 2, 3, 6] [(10, .slice pa na ca)] ?_
    refine od_ ?_
    exact wk (hmx13 γ5 trivial) [1, 2, 3, 6, 10] [[_], [_], [_]] [0, 1, 2] rfl rfl
  refine any_cutX (V := Unit) (fun _ => True) 10 #[false, true, true, false, false, false, true, true, false, false, false, false, false, false] (fun _ => [(1, .pointer (some ⟨γ1 0, 0, none⟩)), (2, .pointer (some ⟨γ1 1, 0, none⟩)), (5, .pointer (some ⟨γ1 0, 1, none⟩)), (10, .slice pa na ca)]) (fun _ => [bx (γ1 1) (#[.int .i64 0, .slice none 0 0, .slice none 0 0]) 27, bx (γ1 0) (#[.int .i64 now, .slice p n cap, .slice pa na ca]) 27]) ?_ (fun hmx4 => ?_)
  ·
   rintro _ _
   refine any_fork [0, 3, 5] (by kernel_rfl) (by simp) (each_cons _ rfl ?_ (each_cons _ rfl ?_ (each_cons _ rfl ?_ (each_nil))))
   ·
    refine mo0 1 [] [1, 2, 5, 10] (fun γ5 => [(3, .slice (some ⟨γ5 0, 0, none⟩) 0 0)]) (fun γ5 L => bx (γ5 0) (#[]) 88 :: L) (fun γ5 => ?_)
    refine od_ ?_
    exact wk (hmx7 γ5 trivial) [1, 2, 3, 5, 10] [[_], [_], [_]] [0, 1, 2] rfl rfl
   ·
    refine qo0 1 [(3, .go (owns 1 1 1))] [1, 2, 10] [(6, .slice p n cap)] ?_
    refine od_ ?_
    exact wk (hmx9 () trivial) [1, 2, 6, 10] [[_], [_]] [0, 1] rfl rfl
   ·
    refine mo0 1 [] [1, 2, 5, 10] (fun γ105 => [(8, .slice (some ⟨γ105 0, 0, none⟩) 0 0)]) (fun γ105 L => bx (γ105 0) (#[]) 47 :: L) (fun γ105 => ?_)
    refine od_ ?_
    exact wk (hmx10 γ105 trivial) [1, 2, 5, 8, 10] [[_], [_], [_]] [0, 1, 2] rfl rfl
  refine any_cutX (V := (Nat → Nat)) (fun γ105 => True) 10 #[false, true, true, false, false, true, true, false, false, false, false, false, false, false] (fun γ105 => [(1, .pointer (some ⟨γ1 0, 0, none⟩)), (2, .pointer (some ⟨γ1 1, 0, none⟩)), (5, .pointer (some ⟨γ1 0, 1, none⟩)), (8, .slice (some ⟨γ105 0, 0, none⟩) 0 0), (9, .pointer (some ⟨γ1 0, 2, none⟩))]) (fun γ105 => [bx (γ105 0) (#[]) 47, bx (γ1 1) (#[.int .i64 0, .slice none 0 0, .slice none 0 0]) 27, bx (γ1 0) (#[.int .i64 now, .slice p n cap, .slice pa na ca]) 27]) ?_ (fun hmx3 => ?_)
  ·
   rintro γ105 _
   refine any_fork [0, 3, 7] (by kernel_rfl) (by simp) (each_cons _ rfl ?_ (each_cons _ rfl ?_ (each_cons _ rfl ?_ (each_nil))))
   ·
    refine mo0 1 [] [1, 2, 5, 8, 9] (fun γ5 => [(3, .slice (some ⟨γ5 0, 0, none⟩) 0 0)]) (fun γ5 L => bx (γ5 0) (#[]) 88 :: L) (fun γ5 => ?_)
    refine od_ ?_
    exact wk (hmx6 (γ105, γ5) trivial) [1, 2, 3, 5, 8, 9] [[_], [_], [_], [_]] [1, 0, 2, 3] rfl rfl
   ·
    refine qo0 1 [(3, .go (owns 2 1 1))] [1, 2, 8, 9] [(6, .slice p n cap)] ?_
    refine od_ ?_
    exact wk (hmx8 γ105 trivial) [1, 2, 6, 8, 9] [[_], [_], [_]] [0, 1, 2] rfl rfl
   ·
    refine qo0 1 [(7, .go (owns 2 2 1))] [1, 2, 5, 8] [(10, .slice pa na ca)] ?_
    refine od_ ?_
    exact wk (hmx10 γ105 trivial) [1, 2, 5, 8, 10] [[_], [_], [_]] [0, 1, 2] rfl rfl
  refine any_cutX (V := Unit) (fun _ => True) 10 #[false, true, true, true, false, false, true, false, false, false, false, false, false, false] (fun _ => [(1, .pointer (some ⟨γ1 0, 0, none⟩)), (2, .pointer (some ⟨γ1 1, 0, none⟩)), (6, .slice p n cap), (9, .pointer (some ⟨γ1 0, 2, none⟩))]) (fun _ => [bx (γ1 1) (#[.int .i64 0, .slice none 0 0, .slice none 0 0]) 27, bx (γ1 0) (#[.int .i64 now, .slice p n cap, .slice pa na ca]) 27]) ?_ (fun hmx2 => ?_)
  ·
   rintro _ _
   refine any_fork [0, 5, 7] (by kernel_rfl) (by simp) (each_cons _ rfl ?_ (each_cons _ rfl ?_ (each_cons _ rfl ?_ (each_nil))))
   ·
    refine mo0 1 [] [1, 2, 6, 9] (fun γ5 => [(3, .slice (some ⟨γ5 0, 0, none⟩) 0 0)]) (fun γ5 L => bx (γ5 0) (#[]) 88 :: L) (fun γ5 => ?_)
    refine od_ ?_
    exact wk (hmx5 γ5 trivial) [1, 2, 3, 6, 9] [[_], [_], [_]] [0, 1, 2] rfl rfl
   ·
    refine mo0 1 [] [1, 2, 6, 9] (fun γ105 => [(8, .slice (some ⟨γ105 0, 0, none⟩) 0 0)]) (fun γ105 L => bx (γ105 0) (#[]) 47 :: L) (fun γ105 => ?_)
    refine od_ ?_
    exact wk (hmx8 γ105 trivial) [1, 2, 6, 8, 9] [[_], [_], [_]] [0, 1, 2] rfl rfl
   ·
    refine qo0 1 [(7, .go (owns 1 2 1))] [1, 2, 6] [(10, .slice pa na ca)] ?_
    refine od_ ?_
    exact wk (hmx9 () trivial) [1, 2, 6, 10] [[_], [_]] [0, 1] rfl rfl
  refine any_cutX (V := (Nat → Nat)) (fun γ5 => True) 10 #[true, true, true, false, false, false, true, false, false, false, false, false, false, false] (fun γ5 => [(1, .pointer (some ⟨γ1 0, 0, none⟩)), (2, .pointer (some ⟨γ1 1, 0, none⟩)), (3, .slice (some ⟨γ5 0, 0, none⟩) 0 0), (5, .pointer (some ⟨γ1 0, 1, none⟩)), (9, .pointer (some ⟨γ1 0, 2, none⟩))]) (fun γ5 => [bx (γ5 0) (#[]) 88, bx (γ1 1) (#[.int .i64 0, .slice none 0 0, .slice none 0 0]) 27, bx (γ1 0) (#[.int .i64 now, .slice p n cap, .slice pa na ca]) 27]) ?_ (fun hmx1 => ?_)
  ·
   rintro γ5 _
   refine any_fork [3, 5, 7] (by kernel_rfl) (by simp) (each_cons _ rfl ?_ (each_cons _ rfl ?_ (each_cons _ rfl ?_ (each_nil))))
   ·
    refine qo0 1 [(3, .go (owns 2 1 1))] [1, 2, 3, 9] [(6, .slice p n cap)] ?_
    refine od_ ?_
    exact wk (hmx5 γ5 trivial) [1, 2, 3, 6, 9] [[_], [_], [_]] [0, 1, 2] rfl rfl
   ·
    refine mo0 1 [] [1, 2, 3, 5, 9] (fun γ105 => [(8, .slice (some ⟨γ105 0, 0, none⟩) 0 0)]) (fun γ105 L => bx (γ105 0) (#[]) 47 :: L) (fun γ105 => ?_)
    refine od_ ?_
    exact wk (hmx6 (γ105, γ5) trivial) [1, 2, 3, 5, 8, 9] [[_], [_], [_], [_]] [0, 1, 2, 3] rfl rfl
   ·
    refine qo0 1 [(7, .go (owns 2 2 1))] [1, 2, 3, 5] [(10, .slice pa na ca)] ?_
    refine od_ ?_
    exact wk (hmx7 γ5 trivial) [1, 2, 3, 5, 10] [[_], [_], [_]] [0, 1, 2] rfl rfl
  refine any_fork [0, 3, 5, 7] (by kernel_rfl) (by simp) (each_cons _ rfl ?_ (each_cons _ rfl ?_ (each_cons _ rfl ?_ (each_cons _ rfl ?_ (each_nil)))))
  ·
   refine mo0 1 [] [1, 2, 5, 9] (fun γ5 => [(3, .slice (some ⟨γ5 0, 0, none⟩) 0 0)]) (fun γ5 L => bx (γ5 0) (#[]) 88 :: L) (fun γ5 => ?_)
   refine od_ ?_
   exact wk (hmx1 γ5 trivial) [1, 2, 3, 5, 9] [[_], [_], [_]] [0, 1, 2] rfl rfl
  ·
   refine qo0 1 [(3, .go (owns 1 1 1))] [1, 2, 9] [(6, .slice p n cap)] ?_
   refine od_ ?_
   exact wk (hmx2 () trivial) [1, 2, 6, 9] [[_], [_]] [0, 1] rfl rfl
  ·
   refine mo0 1 [] [1, 2, 5, 9] (fun γ105 => [(8, .slice (some ⟨γ105 0, 0, none⟩) 0 0)]) (fun γ105 L => bx (γ105 0) (#[]) 47 :: L) (fun γ105 => ?_)
   refine od_ ?_
   exact wk (hmx3 γ105 trivial) [1, 2, 5, 8, 9] [[_], [_], [_]] [0, 1, 2] rfl rfl
  ·
   refine qo0 1 [(7, .go (owns 1 2 1))] [1, 2, 5] [(10, .slice pa na ca)] ?_
   refine od_ ?_
   exact wk (hmx4 () trivial) [1, 2, 5, 10] [[_], [_]] [0, 1] rfl rfl
 rintro ⟨Y165, Y85, cap165, cap85, p165, p85, γ105, γ5⟩ ⟨hO165, hO85⟩
 refine any_nil (by kernel_rfl) ?_
 refine ds_ (sq_ (ma0 [(0, .go (owns 1 0 3)), (1, .go (owns 0 0 3))] [2] (fun _ => []) (fun _ L => (L.set 0 (bx (γ1 1) (#[.int .i64 now, .slice p85 (0 + n) cap85, .slice p165 (0 + na) cap165]) 27))) (fun _ => ds_ (rt (owns 0 0 3) (.agg #[.int .i64 now, .slice p85 (0 + n) cap85, .slice p165 (0 + na) cap165]) ?_))))
 exact fun w' hw => ⟨_, _, _, _, _, _, _, _, rfl, by simpa using hO85, by simpa using hO165, hw.below, two_tails (Hs.pick [[bx (γ1 1) (#[.int .i64 now, .slice p85 (0 + n) cap85, .slice p165 (0 + na) cap165]) 27], [bx (γ1 0) (#[.int .i64 now, .slice p85 (0 + n) cap85, .slice p165 (0 + na) cap165]) 27], Y165, Y85] [3, 2] [0, 1] (by kernel_rfl) hw)⟩

set_option maxRecDepth 100000 in
theorem short_t (now : Int) (p : Option Addr) (n cap : Nat) (ts : List Tim) (pa : Option Addr) (na ca : Nat) (rs : List Alm) (w : World)
 (hts : Sv w p ts) (hn : n = ts.length) (hcp : n ≤ cap) (hbg : cap ≤ 9223372036854775807)
 (hrs : Sv w pa rs) (hna : na = rs.length) (hca : na ≤ ca) (hbga : ca ≤ 9223372036854775807)
 : Calls Try.prog 8 #[.agg #[.int .i64 now, .slice p n cap, .slice pa na ca]] w fun e w' => ∃ q m c Y q2 m2 c2 X, e = .returned (.agg #[.int .i64 now, .slice q m c, .slice q2 m2 c2]) ∧ SlO 88 Y q m c (shT ts) ∧ SlO 47 X q2 m2 c2 (shR rs) ∧ Below w.heap.size w w' ∧ Hs w (Y ++ X) w' := by
 refine enter (Hs.start w) Try.func8 rfl Try.ntmps8 rfl (sq_ (ma0 [] [] (fun γ1 => [(1, .pointer (some ⟨γ1 0, 0, none⟩)), (2, .pointer (some ⟨γ1 1, 0, none⟩))]) (fun γ1 L => bx (γ1 1) (#[.int .i64 0, .slice none 0 0, .slice none 0 0]) 27 :: bx (γ1 0) (#[.int .i64 now, .slice p n cap, .slice pa na ca]) 27 :: L) (fun γ1 => ds_ (sq_ ?_))))
 refine at_any (by kernel_rfl) ?_
 refine tk (m := 15) [0, 1, 3, 4, 9, 11] [] [1, 2] [(4, .pointer (some ⟨γ1 0, 1, none⟩)), (7, .pointer (some ⟨γ1 0, 1, none⟩)), (12, .pointer (some ⟨γ1 0, 2, none⟩)), (14, .pointer (some ⟨γ1 0, 2, none⟩))] ([]) #[true, true, false, true, true, false, false, false, false, true, false, true, false, false, false, false, false, false, false, false, false] al0 ?_
 refine any_cutX (V := Unit) (fun _ => True) 0 #[true, true, true, true, true, true, true, true, true, true, true, true, true, true, true, true, true, true, true, true, true] (fun _ => [(1, .pointer (some ⟨γ1 0, 0, none⟩)), (2, .pointer (some ⟨γ1 1, 0, none⟩))]) (fun _ => [bx (γ1 1) (#[.int .i64 0, .slice none 0 0, .slice none 0 0]) 27, bx (γ1 0) (#[.int .i64 now, .slice p ((min n 33)) cap, .slice pa ((min na 17)) ca]) 27]) ?_ (fun hmx27 => ?_)
 rotate_left
 ·
  refine any_cutX (V := Unit) (fun _ => True) 1 #[true, true, true, true, true, true, true, true, true, true, true, true, true, true, true, true, true, true, true, true, false] (fun _ => [(1, .pointer (some ⟨γ1 0, 0, none⟩)), (2, .pointer (some ⟨γ1 1, 0, none⟩)), (18, .slice pa ((min na 17)) ca), (21, .pointer (some ⟨γ1 0, 2, none⟩))]) (fun _ => [bx (γ1 1) (#[.int .i64 0, .slice none 0 0, .slice none 0 0]) 27, bx (γ1 0) (#[.int .i64 now, .slice p ((min n 33)) cap, .slice pa na ca]) 27]) ?_ (fun hmx26 => ?_)
  ·
   rintro _ _
   refine a1 20 rfl ?_
   refine mo0 1 [(20, .go (owns 1 2 1))] [1, 2] (fun _ => []) (fun _ L => (L.set 1 (bx (γ1 0) (#[.int .i64 now, .slice p ((min n 33)) cap, .slice pa ((min na 17)) ca]) 27))) (fun _ => ?_)
   refine od_ ?_
   exact wk (hmx27 () trivial) [1, 2] [[_], [_]] [0, 1] rfl rfl
  refine any_cutX (V := Unit) (fun _ => True) 3 #[true, true, true, true, true, true, true, true, true, true, true, true, true, true, true, false, true, true, true, false, false] (fun _ => [(1, .pointer (some ⟨γ1 0, 0, none⟩)), (2, .pointer (some ⟨γ1 1, 0, none⟩)), (13, .slice pa na ca), (17, .int .i64 ((if (17 : Int) < ((na : Nat) : Int) then 17 else (na : Nat))))]) (fun _ => [bx (γ1 1) (#[.int .i64 0, .slice none 0 0, .slice none 0 0]) 27, bx (γ1 0) (#[.int .i64 now, .slice p ((min n 33)) cap, .slice pa na ca]) 27]) ?_ (fun hmx25 => ?_)
  ·
   rintro _ _
   refine a1 15 rfl ?_
   refine qo 1 [(15, .sl (.slice pa ((min na 17)) ca))] [1, 2] [(18, .slice pa ((min na 17)) ca)] ([SlRun Try.prog 25 (.slice pa na ca) none (some (.int .i64 ((if (17 : Int) < ((na : Nat) : Int) then 17 else (na : Nat))))) none (.slice pa ((min na 17)) ca)]) (al1 (by rw [min_if17]; exact slE_hi (P := Try.prog) (h := (min na 17)) (T := 25) (e := 47) (k := 3) (by_ := 24) (by kernel_rfl) (by omega))) ?_
   refine od_ ?_
   refine tk (m := 1) [19] [] [1, 2, 18] [(21, .pointer (some ⟨γ1 0, 2, none⟩))] ([]) #[true, true, true, true, true, true, true, true, true, true, true, true, true, true, true, true, true, true, true, true, false] al0 ?_
   exact wk (hmx26 () trivial) [1, 2, 18, 21] [[_], [_]] [0, 1] rfl rfl
  refine any_cutX (V := Unit) (fun _ => True) 3 #[true, true, true, true, true, true, true, true, true, true, true, true, true, true, true, true, true, true, false, false, false] (fun _ => [(1, .pointer (some ⟨γ1 0, 0, none⟩)), (2, .pointer (some ⟨γ1 1, 0, none⟩)), (11, .slice p ((min n 33)) cap), (18, .slice pa ((min na 17)) ca), (20, .pointer (some ⟨γ1 0, 1, none⟩))]) (fun _ => [bx (γ1 1) (#[.int .i64 0, .slice none 0 0, .slice none 0 0]) 27, bx (γ1 0) (#[.int .i64 now, .slice p n cap, .slice pa na ca]) 27]) ?_ (fun hmx24 => ?_)
  ·
   rintro _ _
   refine a1 18 rfl ?_
   refine mo0 1 [(18, .go (owns 1 1 1))] [1, 2, 18] (fun _ => []) (fun _ L => (L.set 1 (bx (γ1 0) (#[.int .i64 now, .slice p ((min n 33)) cap, .slice pa na ca]) 27))) (fun _ => ?_)
   refine od_ ?_
   refine tk (m := 1) [19] [] [1, 2, 18] [(21, .pointer (some ⟨γ1 0, 2, none⟩))] ([]) #[true, true, true, true, true, true, true, true, true, true, true, true, true, true, true, true, true, true, true, true, false] al0 ?_
   exact wk (hmx26 () trivial) [1, 2, 18, 21] [[_], [_]] [0, 1] rfl rfl
  refine any_cutX (V := Unit) (fun _ => True) 4 #[true, true, true, true, true, true, true, true, true, true, true, true, true, true, true, false, true, true, false, false, false] (fun _ => [(1, .pointer (some ⟨γ1 0, 0, none⟩)), (2, .pointer (some ⟨γ1 1, 0, none⟩)), (11, .slice p ((min n 33)) cap), (13, .slice pa na ca), (17, .int .i64 ((if (17 : Int) < ((na : Nat) : Int) then 17 else (na : Nat)))), (20, .pointer (some ⟨γ1 0, 1, none⟩))]) (fun _ => [bx (γ1 1) (#[.int .i64 0, .slice none 0 0, .slice none 0 0]) 27, bx (γ1 0) (#[.int .i64 now, .slice p n cap, .slice pa na ca]) 27]) ?_ (fun hmx23 => ?_)
  ·
   rintro _ _
   refine any_fork [15, 18] (by kernel_rfl) (by simp) (each_cons _ rfl ?_ (each_cons _ rfl ?_ (each_nil)))
   ·
    refine qo 1 [(15, .sl (.slice pa ((min na 17)) ca))] [1, 2, 11, 20] [(18, .slice pa ((min na 17)) ca)] ([SlRun Try.prog 25 (.slice pa na ca) none (some (.int .i64 ((if (17 : Int) < ((na : Nat) : Int) then 17 else (na : Nat))))) none (.slice pa ((min na 17)) ca)]) (al1 (by rw [min_if17]; exact slE_hi (P := Try.prog) (h := (min na 17)) (T := 25) (e := 47) (k := 3) (by_ := 24) (by kernel_rfl) (by omega))) ?_
    refine od_ ?_
    exact wk (hmx24 () trivial) [1, 2, 11, 18, 20] [[_], [_]] [0, 1] rfl rfl
   ·
    refine mo0 1 [(18, .go (owns 1 1 1))] [1, 2, 13, 17] (fun _ => []) (fun _ L => (L.set 1 (bx (γ1 0) (#[.int .i64 now, .slice p ((min n 33)) cap, .slice pa na ca]) 27))) (fun _ => ?_)
    refine od_ ?_
    exact wk (hmx25 () trivial) [1, 2, 13, 17] [[_], [_]] [0, 1] rfl rfl
  refine any_cutX (V := Unit) (fun _ => True) 6 #[true, true, true, true, true, true, true, true, false, true, true, true, true, true, true, true, false, false, false, false, false] (fun _ => [(1, .pointer (some ⟨γ1 0, 0, none⟩)), (2, .pointer (some ⟨γ1 1, 0, none⟩)), (5, .slice p n cap), (10, .int .i64 ((if (33 : Int) < ((n : Nat) : Int) then 33 else (n : Nat)))), (18, .slice pa ((min na 17)) ca)]) (fun _ => [bx (γ1 1) (#[.int .i64 0, .slice none 0 0, .slice none 0 0]) 27, bx (γ1 0) (#[.int .i64 now, .slice p n cap, .slice pa na ca]) 27]) ?_ (fun hmx22 => ?_)
  ·
   rintro _ _
   refine a1 8 rfl ?_
   refine qo 1 [(8, .sl (.slice p ((min n 33)) cap))] [1, 2, 18] [(11, .slice p ((min n 33)) cap)] ([SlRun Try.prog 22 (.slice p n cap) none (some (.int .i64 ((if (33 : Int) < ((n : Nat) : Int) then 33 else (n : Nat))))) none (.slice p ((min n 33)) cap)]) (al1 (by rw [min_if33]; exact slE_hi (P := Try.prog) (h := (min n 33)) (T := 22) (e := 88) (k := 2) (by_ := 16) (by kernel_rfl) (by omega))) ?_
   refine od_ ?_
   refine tk (m := 3) [16, 17] [] [1, 2, 11, 18] [(20, .pointer (some ⟨γ1 0, 1, none⟩))] ([]) #[true, true, true, true, true, true, true, true, true, true, true, true, true, true, true, true, true, true, false, false, false] al0 ?_
   exact wk (hmx24 () trivial) [1, 2, 11, 18, 20] [[_], [_]] [0, 1] rfl rfl
  refine any_cutX (V := Unit) (fun _ => True) 7 #[true, true, false, true, true, true, true, true, false, true, true, true, true, true, true, true, false, false, false, false, false] (fun _ => [(1, .pointer (some ⟨γ1 0, 0, none⟩)), (2, .pointer (some ⟨γ1 1, 0, none⟩)), (4, .pointer (some ⟨γ1 0, 1, none⟩)), (10, .int .i64 ((if (33 : Int) < ((n : Nat) : Int) then 33 else (n : Nat)))), (18, .slice pa ((min na 17)) ca)]) (fun _ => [bx (γ1 1) (#[.int .i64 0, .slice none 0 0, .slice none 0 0]) 27, bx (γ1 0) (#[.int .i64 now, .slice p n cap, .slice pa na ca]) 27]) ?_ (fun hmx21 => ?_)
  ·
   rintro _ _
   refine a1 2 rfl ?_
   refine qo0 1 [(2, .go (owns 1 1 1))] [1, 2, 10, 18] [(5, .slice p n cap)] ?_
   refine od_ ?_
   exact wk (hmx22 () trivial) [1, 2, 5, 10, 18] [[_], [_]] [0, 1] rfl rfl
  refine any_cutX (V := Unit) (fun _ => True) 7 #[true, true, true, true, true, true, true, true, true, true, false, true, true, true, true, false, false, false, false, false, false] (fun _ => [(1, .pointer (some ⟨γ1 0, 0, none⟩)), (2, .pointer (some ⟨γ1 1, 0, none⟩)), (11, .slice p ((min n 33)) cap), (12, .pointer (some ⟨γ1 0, 2, none⟩)), (17, .int .i64 ((if (17 : Int) < ((na : Nat) : Int) then 17 else (na : Nat))))]) (fun _ => [bx (γ1 1) (#[.int .i64 0, .slice none 0 0, .slice none 0 0]) 27, bx (γ1 0) (#[.int .i64 now, .slice p n cap, .slice pa na ca]) 27]) ?_ (fun hmx20 => ?_)
  ·
   rintro _ _
   refine a1 10 rfl ?_
   refine qo0 1 [(10, .go (owns 1 2 1))] [1, 2, 11, 17] [(13, .slice pa na ca)] ?_
   refine od_ ?_
   refine tk (m := 4) [16, 17] [] [1, 2, 11, 13, 17] [(20, .pointer (some ⟨γ1 0, 1, none⟩))] ([]) #[true, true, true, true, true, true, true, true, true, true, true, true, true, true, true, false, true, true, false, false, false] al0 ?_
   exact wk (hmx23 () trivial) [1, 2, 11, 13, 17, 20] [[_], [_]] [0, 1] rfl rfl
  refine any_cutX (V := Unit) (fun _ => True) 7 #[true, true, true, true, true, true, true, true, false, true, true, true, true, true, true, false, false, false, false, false, false] (fun _ => [(1, .pointer (some ⟨γ1 0, 0, none⟩)), (2, .pointer (some ⟨γ1 1, 0, none⟩)), (5, .slice p n cap), (10, .int .i64 ((if (33 : Int) < ((n : Nat) : Int) then 33 else (n : Nat)))), (13, .slice pa na ca), (17, .int .i64 ((if (17 : Int) < ((na : Nat) : Int) then 17 else (na : Nat))))]) (fun _ => [bx (γ1 1) (#[.int .i64 0, .slice none 0 0, .slice none 0 0]) 27, bx (γ1 0) (#[.int .i64 now, .slice p n cap, .slice pa na ca]) 27]) ?_ (fun hmx19 => ?_)
  ·
   rintro _ _
   refine any_fork [8, 15] (by kernel_rfl) (by simp) (each_cons _ rfl ?_ (each_cons _ rfl ?_ (each_nil)))
   ·
    refine qo 1 [(8, .sl (.slice p ((min n 33)) cap))] [1, 2, 13, 17] [(11, .slice p ((min n 33)) cap)] ([SlRun Try.prog 22 (.slice p n cap) none (some (.int .i64 ((if (33 : Int) < ((n : Nat) : Int) then 33 else (n : Nat))))) none (.slice p ((min n 33)) cap)]) (al1 (by rw [min_if33]; exact slE_hi (P := Try.prog) (h := (min n 33)) (T := 22) (e := 88) (k := 2) (by_ := 16) (by kernel_rfl) (by omega))) ?_
    refine od_ ?_
    refine tk (m := 4) [16, 17] [] [1, 2, 11, 13, 17] [(20, .pointer (some ⟨γ1 0, 1, none⟩))] ([]) #[true, true, true, true, true, true, true, true, true, true, true, true, true, true, true, false, true, true, false, false, false] al0 ?_
    exact wk (hmx23 () trivial) [1, 2, 11, 13, 17, 20] [[_], [_]] [0, 1] rfl rfl
   ·
    refine qo 1 [(15, .sl (.slice pa ((min na 17)) ca))] [1, 2, 5, 10] [(18, .slice pa ((min na 17)) ca)] ([SlRun Try.prog 25 (.slice pa na ca) none (some (.int .i64 ((if (17 : Int) < ((na : Nat) : Int) then 17 else (na : Nat))))) none (.slice pa ((min na 17)) ca)]) (al1 (by rw [min_if17]; exact slE_hi (P := Try.prog) (h := (min na 17)) (T := 25) (e := 47) (k := 3) (by_ := 24) (by kernel_rfl) (by omega))) ?_
    refine od_ ?_
    exact wk (hmx22 () trivial) [1, 2, 5, 10, 18] [[_], [_]] [0, 1] rfl rfl
  refine any_cutX (V := Unit) (fun _ => True) 8 #[true, true, false, true, true, true, true, true, false, true, true, true, true, true, true, false, false, false, false, false, false] (fun _ => [(1, .pointer (some ⟨γ1 0, 0, none⟩)), (2, .pointer (some ⟨γ1 1, 0, none⟩)), (4, .pointer (some ⟨γ1 0, 1, none⟩)), (10, .int .i64 ((if (33 : Int) < ((n : Nat) : Int) then 33 else (n : Nat)))), (13, .slice pa na ca), (17, .int .i64 ((if (17 : Int) < ((na : Nat) : Int) then 17 else (na : Nat))))]) (fun _ => [bx (γ1 1) (#[.int .i64 0, .slice none 0 0, .slice none 0 0]) 27, bx (γ1 0) (#[.int .i64 now, .slice p n cap, .slice pa na ca]) 27]) ?_ (fun hmx18 => ?_)
  ·
   rintro _ _
   refine any_fork [2, 15] (by kernel_rfl) (by simp) (each_cons _ rfl ?_ (each_cons _ rfl ?_ (each_nil)))
   ·
    refine qo0 1 [(2, .go (owns 1 1 1))] [1, 2, 10, 13, 17] [(5, .slice p n cap)] ?_
    refine od_ ?_
    exact wk (hmx19 () trivial) [1, 2, 5, 10, 13, 17] [[_], [_]] [0, 1] rfl rfl
   ·
    refine qo 1 [(15, .sl (.slice pa ((min na 17)) ca))] [1, 2, 4, 10] [(18, .slice pa ((min na 17)) ca)] ([SlRun Try.prog 25 (.slice pa na ca) none (some (.int .i64 ((if (17 : Int) < ((na : Nat) : Int) then 17 else (na : Nat))))) none (.slice pa ((min na 17)) ca)]) (al1 (by rw [min_if17]; exact slE_hi (P := Try.prog) (h := (min na 17)) (T := 25) (e := 47) (k := 3) (by_ := 24) (by kernel_rfl) (by omega))) ?_
    refine od_ ?_
    exact wk (hmx21 () trivial) [1, 2, 4, 10, 18] [[_], [_]] [0, 1] rfl rfl
  refine any_cutX (V := Unit) (fun _ => True) 8 #[true, true, true, true, true, true, true, true, false, true, false, true, true, true, true, false, false, false, false, false, false] (fun _ => [(1, .pointer (some ⟨γ1 0, 0, none⟩)), (2, .pointer (some ⟨γ1 1, 0, none⟩)), (5, .slice p n cap), (10, .int .i64 ((if (33 : Int) < ((n : Nat) : Int) then 33 else (n : Nat)))), (12, .pointer (some ⟨γ1 0, 2, none⟩)), (17, .int .i64 ((if (17 : Int) < ((na : Nat) : Int) then 17 else (na : Nat))))]) (fun _ => [bx (γ1 1) (#[.int .i64 0, .slice none 0 0, .slice none 0 0]) 27, bx (γ1 0) (#[.int .i64 now, .slice p n cap, .slice pa na ca]) 27]) ?_ (fun hmx17 => ?_)
  ·
   rintro _ _
   refine any_fork [8, 10] (by kernel_rfl) (by simp) (each_cons _ rfl ?_ (each_cons _ rfl ?_ (each_nil)))
   ·
    refine qo 1 [(8, .sl (.slice p ((min n 33)) cap))] [1, 2, 12, 17] [(11, .slice p ((min n 33)) cap)] ([SlRun Try.prog 22 (.slice p n cap) none (some (.int .i64 ((if (33 : Int) < ((n : Nat) : Int) then 33 else (n : Nat))))) none (.slice p ((min n 33)) cap)]) (al1 (by rw [min_if33]; exact slE_hi (P := Try.prog) (h := (min n 33)) (T := 22) (e := 88) (k := 2) (by_ := 16) (by kernel_rfl) (by omega))) ?_
    refine od_ ?_
    exact wk (hmx20 () trivial) [1, 2, 11, 12, 17] [[_], [_]] [0, 1] rfl rfl
   ·
    refine qo0 1 [(10, .go (owns 1 2 1))] [1, 2, 5, 10, 17] [(13, .slice pa na ca)] ?_
    refine od_ ?_
    exact wk (hmx19 () trivial) [1, 2, 5, 10, 13, 17] [[_], [_]] [0, 1] rfl rfl
  refine any_cutX (V := Unit) (fun _ => True) 9 #[true, true, true, true, true, false, false, false, false, true, true, true, true, true, true, true, false, false, false, false, false] (fun _ => [(1, .pointer (some ⟨γ1 0, 0, none⟩)), (2, .pointer (some ⟨γ1 1, 0, none⟩)), (5, .slice p n cap), (7, .pointer (some ⟨γ1 0, 1, none⟩)), (18, .slice pa ((min na 17)) ca)]) (fun _ => [bx (γ1 1) (#[.int .i64 0, .slice none 0 0, .slice none 0 0]) 27, bx (γ1 0) (#[.int .i64 now, .slice p n cap, .slice pa na ca]) 27]) ?_ (fun hmx16 => ?_)
  ·
   rintro _ _
   refine a1 5 rfl ?_
   refine qo0 1 [(5, .go (owns 1 1 1))] [1, 2, 5, 18] [(8, .slice p n cap)] ?_
   refine od_ ?_
   refine tk (m := 6) [6, 7] [] [1, 2, 5, 18] [(10, .int .i64 ((if (33 : Int) < ((n : Nat) : Int) then 33 else (n : Nat))))] ([]) #[true, true, true, true, true, true, true, true, false, true, true, true, true, true, true, true, false, false, false, false, false] al0 ?_
   exact wk (hmx22 () trivial) [1, 2, 5, 10, 18] [[_], [_]] [0, 1] rfl rfl
  refine any_cutX (V := Unit) (fun _ => True) 9 #[true, true, true, true, true, true, true, true, true, true, true, true, false, false, false, false, false, false, false, false, false] (fun _ => [(1, .pointer (some ⟨γ1 0, 0, none⟩)), (2, .pointer (some ⟨γ1 1, 0, none⟩)), (11, .slice p ((min n 33)) cap), (13, .slice pa na ca), (14, .pointer (some ⟨γ1 0, 2, none⟩))]) (fun _ => [bx (γ1 1) (#[.int .i64 0, .slice none 0 0, .slice none 0 0]) 27, bx (γ1 0) (#[.int .i64 now, .slice p n cap, .slice pa na ca]) 27]) ?_ (fun hmx15 => ?_)
  ·
   rintro _ _
   refine a1 12 rfl ?_
   refine qo0 1 [(12, .go (owns 1 2 1))] [1, 2, 11, 13] [(15, .slice pa na ca)] ?_
   refine od_ ?_
   refine tk (m := 4) [13, 14, 16, 17] [] [1, 2, 11, 13] [(17, .int .i64 ((if (17 : Int) < ((na : Nat) : Int) then 17 else (na : Nat)))), (20, .pointer (some ⟨γ1 0, 1, none⟩))] ([]) #[true, true, true, true, true, true, true, true, true, true, true, true, true, true, true, false, true, true, false, false, false] al0 ?_
   exact wk (hmx23 () trivial) [1, 2, 11, 13, 17, 20] [[_], [_]] [0, 1] rfl rfl
  refine any_cutX (V := Unit) (fun _ => True) 9 #[true, true, false, true, true, true, true, true, false, true, false, true, true, true, true, false, false, false, false, false, false] (fun _ => [(1, .pointer (some ⟨γ1 0, 0, none⟩)), (2, .pointer (some ⟨γ1 1, 0, none⟩)), (4, .pointer (some ⟨γ1 0, 1, none⟩)), (10, .int .i64 ((if (33 : Int) < ((n : Nat) : Int) then 33 else (n : Nat)))), (12, .pointer (some ⟨γ1 0, 2, none⟩)), (17, .int .i64 ((if (17 : Int) < ((na : Nat) : Int) then 17 else (na : Nat))))]) (fun _ => [bx (γ1 1) (#[.int .i64 0, .slice none 0 0, .slice none 0 0]) 27, bx (γ1 0) (#[.int .i64 now, .slice p n cap, .slice pa na ca]) 27]) ?_ (fun hmx14 => ?_)
  ·
   rintro _ _
   refine any_fork [2, 10] (by kernel_rfl) (by simp) (each_cons _ rfl ?_ (each_cons _ rfl ?_ (each_nil)))
   ·
    refine qo0 1 [(2, .go (owns 1 1 1))] [1, 2, 10, 12, 17] [(5, .slice p n cap)] ?_
    refine od_ ?_
    exact wk (hmx17 () trivial) [1, 2, 5, 10, 12, 17] [[_], [_]] [0, 1] rfl rfl
   ·
    refine qo0 1 [(10, .go (owns 1 2 1))] [1, 2, 4, 10, 17] [(13, .slice pa na ca)] ?_
    refine od_ ?_
    exact wk (hmx18 () trivial) [1, 2, 4, 10, 13, 17] [[_], [_]] [0, 1] rfl rfl
  refine any_cutX (V := Unit) (fun _ => True) 10 #[true, true, false, true, true, false, false, false, false, true, true, true, true, true, true, true, false, false, false, false, false] (fun _ => [(1, .pointer (some ⟨γ1 0, 0, none⟩)), (2, .pointer (some ⟨γ1 1, 0, none⟩)), (4, .pointer (some ⟨γ1 0, 1, none⟩)), (7, .pointer (some ⟨γ1 0, 1, none⟩)), (18, .slice pa ((min na 17)) ca)]) (fun _ => [bx (γ1 1) (#[.int .i64 0, .slice none 0 0, .slice none 0 0]) 27, bx (γ1 0) (#[.int .i64 now, .slice p n cap, .slice pa na ca]) 27]) ?_ (fun hmx13 => ?_)
  ·
   rintro _ _
   refine any_fork [2, 5] (by kernel_rfl) (by simp) (each_cons _ rfl ?_ (each_cons _ rfl ?_ (each_nil)))
   ·
    refine qo0 1 [(2, .go (owns 1 1 1))] [1, 2, 7, 18] [(5, .slice p n cap)] ?_
    refine od_ ?_
    exact wk (hmx16 () trivial) [1, 2, 5, 7, 18] [[_], [_]] [0, 1] rfl rfl
   ·
    refine qo0 1 [(5, .go (owns 1 1 1))] [1, 2, 4, 18] [(8, .slice p n cap)] ?_
    refine od_ ?_
    refine tk (m := 7) [6, 7] [] [1, 2, 4, 18] [(10, .int .i64 ((if (33 : Int) < ((n : Nat) : Int) then 33 else (n : Nat))))] ([]) #[true, true, false, true, true, true, true, true, false, true, true, true, true, true, true, true, false, false, false, false, false] al0 ?_
    exact wk (hmx21 () trivial) [1, 2, 4, 10, 18] [[_], [_]] [0, 1] rfl rfl
  refine any_cutX (V := Unit) (fun _ => True) 10 #[true, true, true, true, true, true, true, true, true, true, false, true, false, false, false, false, false, false, false, false, false] (fun _ => [(1, .pointer (some ⟨γ1 0, 0, none⟩)), (2, .pointer (some ⟨γ1 1, 0, none⟩)), (11, .slice p ((min n 33)) cap), (12, .pointer (some ⟨γ1 0, 2, none⟩)), (14, .pointer (some ⟨γ1 0, 2, none⟩))]) (fun _ => [bx (γ1 1) (#[.int .i64 0, .slice none 0 0, .slice none 0 0]) 27, bx (γ1 0) (#[.int .i64 now, .slice p n cap, .slice pa na ca]) 27]) ?_ (fun hmx12 => ?_)
  ·
   rintro _ _
   refine any_fork [10, 12] (by kernel_rfl) (by simp) (each_cons _ rfl ?_ (each_cons _ rfl ?_ (each_nil)))
   ·
    refine qo0 1 [(10, .go (owns 1 2 1))] [1, 2, 11, 14] [(13, .slice pa na ca)] ?_
    refine od_ ?_
    exact wk (hmx15 () trivial) [1, 2, 11, 13, 14] [[_], [_]] [0, 1] rfl rfl
   ·
    refine qo0 1 [(12, .go (owns 1 2 1))] [1, 2, 11, 12] [(15, .slice pa na ca)] ?_
    refine od_ ?_
    refine tk (m := 7) [13, 14] [] [1, 2, 11, 12] [(17, .int .i64 ((if (17 : Int) < ((na : Nat) : Int) then 17 else (na : Nat))))] ([]) #[true, true, true, true, true, true, true, true, true, true, false, true, true, true, true, false, false, false, false, false, false] al0 ?_
    exact wk (hmx20 () trivial) [1, 2, 11, 12, 17] [[_], [_]] [0, 1] rfl rfl
  refine any_cutX (V := Unit) (fun _ => True) 10 #[true, true, true, true, true, false, false, false, false, true, true, true, true, true, true, false, false, false, false, false, false] (fun _ => [(1, .pointer (some ⟨γ1 0, 0, none⟩)), (2, .pointer (some ⟨γ1 1, 0, none⟩)), (5, .slice p n cap), (7, .pointer (some ⟨γ1 0, 1, none⟩)), (13, .slice pa na ca), (17, .int .i64 ((if (17 : Int) < ((na : Nat) : Int) then 17 else (na : Nat))))]) (fun _ => [bx (γ1 1) (#[.int .i64 0, .slice none 0 0, .slice none 0 0]) 27, bx (γ1 0) (#[.int .i64 now, .slice p n cap, .slice pa na ca]) 27]) ?_ (fun hmx11 => ?_)
  ·
   rintro _ _
   refine any_fork [5, 15] (by kernel_rfl) (by simp) (each_cons _ rfl ?_ (each_cons _ rfl ?_ (each_nil)))
   ·
    refine qo0 1 [(5, .go (owns 1 1 1))] [1, 2, 5, 13, 17] [(8, .slice p n cap)] ?_
    refine od_ ?_
    refine tk (m := 7) [6, 7] [] [1, 2, 5, 13, 17] [(10, .int .i64 ((if (33 : Int) < ((n : Nat) : Int) then 33 else (n : Nat))))] ([]) #[true, true, true, true, true, true, true, true, false, true, true, true, true, true, true, false, false, false, false, false, false] al0 ?_
    exact wk (hmx19 () trivial) [1, 2, 5, 10, 13, 17] [[_], [_]] [0, 1] rfl rfl
   ·
    refine qo 1 [(15, .sl (.slice pa ((min na 17)) ca))] [1, 2, 5, 7] [(18, .slice pa ((min na 17)) ca)] ([SlRun Try.prog 25 (.slice pa na ca) none (some (.int .i64 ((if (17 : Int) < ((na : Nat) : Int) then 17 else (na : Nat))))) none (.slice pa ((min na 17)) ca)]) (al1 (by rw [min_if17]; exact slE_hi (P := Try.prog) (h := (min na 17)) (T := 25) (e := 47) (k := 3) (by_ := 24) (by kernel_rfl) (by omega))) ?_
    refine od_ ?_
    exact wk (hmx16 () trivial) [1, 2, 5, 7, 18] [[_], [_]] [0, 1] rfl rfl
  refine any_cutX (V := Unit) (fun _ => True) 10 #[true, true, true, true, true, true, true, true, false, true, true, true, false, false, false, false, false, false, false, false, false] (fun _ => [(1, .pointer (some ⟨γ1 0, 0, none⟩)), (2, .pointer (some ⟨γ1 1, 0, none⟩)), (5, .slice p n cap), (10, .int .i64 ((if (33 : Int) < ((n : Nat) : Int) then 33 else (n : Nat)))), (13, .slice pa na ca), (14, .pointer (some ⟨γ1 0, 2, none⟩))]) (fun _ => [bx (γ1 1) (#[.int .i64 0, .slice none 0 0, .slice none 0 0]) 27, bx (γ1 0) (#[.int .i64 now, .slice p n cap, .slice pa na ca]) 27]) ?_ (fun hmx10 => ?_)
  ·
   rintro _ _
   refine any_fork [8, 12] (by kernel_rfl) (by simp) (each_cons _ rfl ?_ (each_cons _ rfl ?_ (each_nil)))
   ·
    refine qo 1 [(8, .sl (.slice p ((min n 33)) cap))] [1, 2, 13, 14] [(11, .slice p ((min n 33)) cap)] ([SlRun Try.prog 22 (.slice p n cap) none (some (.int .i64 ((if (33 : Int) < ((n : Nat) : Int) then 33 else (n : Nat))))) none (.slice p ((min n 33)) cap)]) (al1 (by rw [min_if33]; exact slE_hi (P := Try.prog) (h := (min n 33)) (T := 22) (e := 88) (k := 2) (by_ := 16) (by kernel_rfl) (by omega))) ?_
    refine od_ ?_
    exact wk (hmx15 () trivial) [1, 2, 11, 13, 14] [[_], [_]] [0, 1] rfl rfl
   ·
    refine qo0 1 [(12, .go (owns 1 2 1))] [1, 2, 5, 10, 13] [(15, .slice pa na ca)] ?_
    refine od_ ?_
    refine tk (m := 7) [13, 14] [] [1, 2, 5, 10, 13] [(17, .int .i64 ((if (17 : Int) < ((na : Nat) : Int) then 17 else (na : Nat))))] ([]) #[true, true, true, true, true, true, true, true, false, true, true, true, true, true, true, false, false, false, false, false, false] al0 ?_
    exact wk (hmx19 () trivial) [1, 2, 5, 10, 13, 17] [[_], [_]] [0, 1] rfl rfl
  refine any_cutX (V := Unit) (fun _ => True) 11 #[true, true, false, true, true, false, false, false, false, true, true, true, true, true, true, false, false, false, false, false, false] (fun _ => [(1, .pointer (some ⟨γ1 0, 0, none⟩)), (2, .pointer (some ⟨γ1 1, 0, none⟩)), (4, .pointer (some ⟨γ1 0, 1, none⟩)), (7, .pointer (some ⟨γ1 0, 1, none⟩)), (13, .slice pa na ca), (17, .int .i64 ((if (17 : Int) < ((na : Nat) : Int) then 17 else (na : Nat))))]) (fun _ => [bx (γ1 1) (#[.int .i64 0, .slice none 0 0, .slice none 0 0]) 27, bx (γ1 0) (#[.int .i64 now, .slice p n cap, .slice pa na ca]) 27]) ?_ (fun hmx9 => ?_)
  ·
   rintro _ _
   refine any_fork [2, 5, 15] (by kernel_rfl) (by simp) (each_cons _ rfl ?_ (each_cons _ rfl ?_ (each_cons _ rfl ?_ (each_nil))))
   ·
    refine qo0 1 [(2, .go (owns 1 1 1))] [1, 2, 7, 13, 17] [(5, .slice p n cap)] ?_
    refine od_ ?_
    exact wk (hmx11 () trivial) [1, 2, 5, 7, 13, 17] [[_], [_]] [0, 1] rfl rfl
   ·
    refine qo0 1 [(5, .go (owns 1 1 1))] [1, 2, 4, 13, 17] [(8, .slice p n cap)] ?_
    refine od_ ?_
    refine tk (m := 8) [6, 7] [] [1, 2, 4, 13, 17] [(10, .int .i64 ((if (33 : Int) < ((n : Nat) : Int) then 33 else (n : Nat))))] ([]) #[true, true, false, true, true, true, true, true, false, true, true, true, true, true, true, false, false, false, false, false, false] al0 ?_
    exact wk (hmx18 () trivial) [1, 2, 4, 10, 13, 17] [[_], [_]] [0, 1] rfl rfl
   ·
    refine qo 1 [(15, .sl (.slice pa ((min na 17)) ca))] [1, 2, 4, 7] [(18, .slice pa ((min na 17)) ca)] ([SlRun Try.prog 25 (.slice pa na ca) none (some (.int .i64 ((if (17 : Int) < ((na : Nat) : Int) then 17 else (na : Nat))))) none (.slice pa ((min na 17)) ca)]) (al1 (by rw [min_if17]; exact slE_hi (P := Try.prog) (h := (min na 17)) (T := 25) (e := 47) (k := 3) (by_ := 24) (by kernel_rfl) (by omega))) ?_
    refine od_ ?_
    exact wk (hmx13 () trivial) [1, 2, 4, 7, 18] [[_], [_]] [0, 1] rfl rfl
  refine any_cutX (V := Unit) (fun _ => True) 11 #[true, true, false, true, true, true, true, true, false, true, true, true, false, false, false, false, false, false, false, false, false] (fun _ => [(1, .pointer (some ⟨γ1 0, 0, none⟩)), (2, .pointer (some ⟨γ1 1, 0, none⟩)), (4, .pointer (some ⟨γ1 0, 1, none⟩)), (10, .int .i64 ((if (33 : Int) < ((n : Nat) : Int) then 33 else (n : Nat)))), (13, .slice pa na ca), (14, .pointer (some ⟨γ1 0, 2, none⟩))]) (fun _ => [bx (γ1 1) (#[.int .i64 0, .slice none 0 0, .slice none 0 0]) 27, bx (γ1 0) (#[.int .i64 now, .slice p n cap, .slice pa na ca]) 27]) ?_ (fun hmx8 => ?_)
  ·
   rintro _ _
   refine any_fork [2, 12] (by kernel_rfl) (by simp) (each_cons _ rfl ?_ (each_cons _ rfl ?_ (each_nil)))
   ·
    refine qo0 1 [(2, .go (owns 1 1 1))] [1, 2, 10, 13, 14] [(5, .slice p n cap)] ?_
    refine od_ ?_
    exact wk (hmx10 () trivial) [1, 2, 5, 10, 13, 14] [[_], [_]] [0, 1] rfl rfl
   ·
    refine qo0 1 [(12, .go (owns 1 2 1))] [1, 2, 4, 10, 13] [(15, .slice pa na ca)] ?_
    refine od_ ?_
    refine tk (m := 8) [13, 14] [] [1, 2, 4, 10, 13] [(17, .int .i64 ((if (17 : Int) < ((na : Nat) : Int) then 17 else (na : Nat))))] ([]) #[true, true, false, true, true, true, true, true, false, true, true, true, true, true, true, false, false, false, false, false, false] al0 ?_
    exact wk (hmx18 () trivial) [1, 2, 4, 10, 13, 17] [[_], [_]] [0, 1] rfl rfl
  refine any_cutX (V := Unit) (fun _ => True) 11 #[true, true, true, true, true, false, false, false, false, true, false, true, true, true, true, false, false, false, false, false, false] (fun _ => [(1, .pointer (some ⟨γ1 0, 0, none⟩)), (2, .pointer (some ⟨γ1 1, 0, none⟩)), (5, .slice p n cap), (7, .pointer (some ⟨γ1 0, 1, none⟩)), (12, .pointer (some ⟨γ1 0, 2, none⟩)), (17, .int .i64 ((if (17 : Int) < ((na : Nat) : Int) then 17 else (na : Nat))))]) (fun _ => [bx (γ1 1) (#[.int .i64 0, .slice none 0 0, .slice none 0 0]) 27, bx (γ1 0) (#[.int .i64 now, .slice p n cap, .slice pa na ca]) 27]) ?_ (fun hmx7 => ?_)
  ·
   rintro _ _
   refine any_fork [5, 10] (by kernel_rfl) (by simp) (each_cons _ rfl ?_ (each_cons _ rfl ?_ (each_nil)))
   ·
    refine qo0 1 [(5, .go (owns 1 1 1))] [1, 2, 5, 12, 17] [(8, .slice p n cap)] ?_
    refine od_ ?_
    refine tk (m := 8) [6, 7] [] [1, 2, 5, 12, 17] [(10, .int .i64 ((if (33 : Int) < ((n : Nat) : Int) then 33 else (n : Nat))))] ([]) #[true, true, true, true, true, true, true, true, false, true, false, true, true, true, true, false, false, false, false, false, false] al0 ?_
    exact wk (hmx17 () trivial) [1, 2, 5, 10, 12, 17] [[_], [_]] [0, 1] rfl rfl
   ·
    refine qo0 1 [(10, .go (owns 1 2 1))] [1, 2, 5, 7, 17] [(13, .slice pa na ca)] ?_
    refine od_ ?_
    exact wk (hmx11 () trivial) [1, 2, 5, 7, 13, 17] [[_], [_]] [0, 1] rfl rfl
  refine any_cutX (V := Unit) (fun _ => True) 11 #[true, true, true, true, true, true, true, true, false, true, false, true, false, false, false, false, false, false, false, false, false] (fun _ => [(1, .pointer (some ⟨γ1 0, 0, none⟩)), (2, .pointer (some ⟨γ1 1, 0, none⟩)), (5, .slice p n cap), (10, .int .i64 ((if (33 : Int) < ((n : Nat) : Int) then 33 else (n : Nat)))), (12, .pointer (some ⟨γ1 0, 2, none⟩)), (14, .pointer (some ⟨γ1 0, 2, none⟩))]) (fun _ => [bx (γ1 1) (#[.int .i64 0, .slice none 0 0, .slice none 0 0]) 27, bx (γ1 0) (#[.int .i64 now, .slice p n cap, .slice pa na ca]) 27]) ?_ (fun hmx6 => ?_)
  ·
   rintro _ _
   refine any_fork [8, 10, 12] (by kernel_rfl) (by simp) (each_cons _ rfl ?_ (each_cons _ rfl ?_ (each_cons _ rfl ?_ (each_nil))))
   ·
    refine qo 1 [(8, .sl (.slice p ((min n 33)) cap))] [1, 2, 12, 14] [(11, .slice p ((min n 33)) cap)] ([SlRun Try.prog 22 (.slice p n cap) none (some (.int .i64 ((if (33 : Int) < ((n : Nat) : Int) then 33 else (n : Nat))))) none (.slice p ((min n 33)) cap)]) (al1 (by rw [min_if33]; exact slE_hi (P := Try.prog) (h := (min n 33)) (T := 22) (e := 88) (k := 2) (by_ := 16) (by kernel_rfl) (by omega))) ?_
    refine od_ ?_
    exact wk (hmx12 () trivial) [1, 2, 11, 12, 14] [[_], [_]] [0, 1] rfl rfl
   ·
    refine qo0 1 [(10, .go (owns 1 2 1))] [1, 2, 5, 10, 14] [(13, .slice pa na ca)] ?_
    refine od_ ?_
    exact wk (hmx10 () trivial) [1, 2, 5, 10, 13, 14] [[_], [_]] [0, 1] rfl rfl
   ·
    refine qo0 1 [(12, .go (owns 1 2 1))] [1, 2, 5, 10, 12] [(15, .slice pa na ca)] ?_
    refine od_ ?_
    refine tk (m := 8) [13, 14] [] [1, 2, 5, 10, 12] [(17, .int .i64 ((if (17 : Int) < ((na : Nat) : Int) then 17 else (na : Nat))))] ([]) #[true, true, true, true, true, true, true, true, false, true, false, true, true, true, true, false, false, false, false, false, false] al0 ?_
    exact wk (hmx17 () trivial) [1, 2, 5, 10, 12, 17] [[_], [_]] [0, 1] rfl rfl
  refine any_cutX (V := Unit) (fun _ => True) 12 #[true, true, false, true, true, false, false, false, false, true, false, true, true, true, true, false, false, false, false, false, false] (fun _ => [(1, .pointer (some ⟨γ1 0, 0, none⟩)), (2, .pointer (some ⟨γ1 1, 0, none⟩)), (4, .pointer (some ⟨γ1 0, 1, none⟩)), (7, .pointer (some ⟨γ1 0, 1, none⟩)), (12, .pointer (some ⟨γ1 0, 2, none⟩)), (17, .int .i64 ((if (17 : Int) < ((na : Nat) : Int) then 17 else (na : Nat))))]) (fun _ => [bx (γ1 1) (#[.int .i64 0, .slice none 0 0, .slice none 0 0]) 27, bx (γ1 0) (#[.int .i64 now, .slice p n cap, .slice pa na ca]) 27]) ?_ (fun hmx5 => ?_)
  ·
   rintro _ _
   refine any_fork [2, 5, 10] (by kernel_rfl) (by simp) (each_cons _ rfl ?_ (each_cons _ rfl ?_ (each_cons _ rfl ?_ (each_nil))))
   ·
    refine qo0 1 [(2, .go (owns 1 1 1))] [1, 2, 7, 12, 17] [(5, .slice p n cap)] ?_
    refine od_ ?_
    exact wk (hmx7 () trivial) [1, 2, 5, 7, 12, 17] [[_], [_]] [0, 1] rfl rfl
   ·
    refine qo0 1 [(5, .go (owns 1 1 1))] [1, 2, 4, 12, 17] [(8, .slice p n cap)] ?_
    refine od_ ?_
    refine tk (m := 9) [6, 7] [] [1, 2, 4, 12, 17] [(10, .int .i64 ((if (33 : Int) < ((n : Nat) : Int) then 33 else (n : Nat))))] ([]) #[true, true, false, true, true, true, true, true, false, true, false, true, true, true, true, false, false, false, false, false, false] al0 ?_
    exact wk (hmx14 () trivial) [1, 2, 4, 10, 12, 17] [[_], [_]] [0, 1] rfl rfl
   ·
    refine qo0 1 [(10, .go (owns 1 2 1))] [1, 2, 4, 7, 17] [(13, .slice pa na ca)] ?_
    refine od_ ?_
    exact wk (hmx9 () trivial) [1, 2, 4, 7, 13, 17] [[_], [_]] [0, 1] rfl rfl
  refine any_cutX (V := Unit) (fun _ => True) 12 #[true, true, false, true, true, true, true, true, false, true, false, true, false, false, false, false, false, false, false, false, false] (fun _ => [(1, .pointer (some ⟨γ1 0, 0, none⟩)), (2, .pointer (some ⟨γ1 1, 0, none⟩)), (4, .pointer (some ⟨γ1 0, 1, none⟩)), (10, .int .i64 ((if (33 : Int) < ((n : Nat) : Int) then 33 else (n : Nat)))), (12, .pointer (some ⟨γ1 0, 2, none⟩)), (14, .pointer (some ⟨γ1 0, 2, none⟩))]) (fun _ => [bx (γ1 1) (#[.int .i64 0, .slice none 0 0, .slice none 0 0]) 27, bx (γ1 0) (#[.int .i64 now, .slice p n cap, .slice pa na ca]) 27]) ?_ (fun hmx4 => ?_)
  ·
   rintro _ _
   refine any_fork [2, 10, 12] (by kernel_rfl) (by simp) (each_cons _ rfl ?_ (each_cons _ rfl ?_ (each_cons _ rfl ?_ (each_nil))))
   ·
    refine qo0 1 [(2, .go (owns 1 1 1))] [1, 2, 10, 12, 14] [(5, .slice p n cap)] ?_
    refine od_ ?_
    exact wk (hmx6 () trivial) [1, 2, 5, 10, 12, 14] [[_], [_]] [0, 1] rfl rfl
   ·
    refine qo0 1 [(10, .go (owns 1 2 1))] [1, 2, 4, 10, 14] [(13, .slice pa na ca)] ?_
    refine od_ ?_
    exact wk (hmx8 () trivial) [1, 2, 4, 10, 13, 14] [[_], [_]] [0, 1] rfl rfl
   ·
    refine qo0 1 [(12, .go (owns 1 2 1))] [1, 2, 4, 10, 12] [(15, .slice pa na ca)] ?_
    refine od_ ?_
    refine tk (m := 9) [13, 14] [] [1, 2, 4, 10, 12] [(17, .int .i64 ((if (17 : Int) < ((na : Nat) : Int) then 17 else (na : Nat))))] ([]) #[true, true, false, true, true, true, true, true, false, true, false, true, true, true, true, false, false, false, false, false, false] al0 ?_
    exact wk (hmx14 () trivial) [1, 2, 4, 10, 12, 17] [[_], [_]] [0, 1] rfl rfl
  refine any_cutX (V := Unit) (fun _ => True) 13 #[true, true, true, true, true, false, false, false, false, true, true, true, false, false, false, false, false, false, false, false, false] (fun _ => [(1, .pointer (some ⟨γ1 0, 0, none⟩)), (2, .pointer (some ⟨γ1 1, 0, none⟩)), (5, .slice p n cap), (7, .pointer (some ⟨γ1 0, 1, none⟩)), (13, .slice pa na ca), (14, .pointer (some ⟨γ1 0, 2, none⟩))]) (fun _ => [bx (γ1 1) (#[.int .i64 0, .slice none 0 0, .slice none 0 0]) 27, bx (γ1 0) (#[.int .i64 now, .slice p n cap, .slice pa na ca]) 27]) ?_ (fun hmx3 => ?_)
  ·
   rintro _ _
   refine any_fork [5, 12] (by kernel_rfl) (by simp) (each_cons _ rfl ?_ (each_cons _ rfl ?_ (each_nil)))
   ·
    refine qo0 1 [(5, .go (owns 1 1 1))] [1, 2, 5, 13, 14] [(8, .slice p n cap)] ?_
    refine od_ ?_
    refine tk (m := 10) [6, 7] [] [1, 2, 5, 13, 14] [(10, .int .i64 ((if (33 : Int) < ((n : Nat) : Int) then 33 else (n : Nat))))] ([]) #[true, true, true, true, true, true, true, true, false, true, true, true, false, false, false, false, false, false, false, false, false] al0 ?_
    exact wk (hmx10 () trivial) [1, 2, 5, 10, 13, 14] [[_], [_]] [0, 1] rfl rfl
   ·
    refine qo0 1 [(12, .go (owns 1 2 1))] [1, 2, 5, 7, 13] [(15, .slice pa na ca)] ?_
    refine od_ ?_
    refine tk (m := 10) [13, 14] [] [1, 2, 5, 7, 13] [(17, .int .i64 ((if (17 : Int) < ((na : Nat) : Int) then 17 else (na : Nat))))] ([]) #[true, true, true, true, true, false, false, false, false, true, true, true, true, true, true, false, false, false, false, false, false] al0 ?_
    exact wk (hmx11 () trivial) [1, 2, 5, 7, 13, 17] [[_], [_]] [0, 1] rfl rfl
  refine any_cutX (V := Unit) (fun _ => True) 14 #[true, true, false, true, true, false, false, false, false, true, true, true, false, false, false, false, false, false, false, false, false] (fun _ => [(1, .pointer (some ⟨γ1 0, 0, none⟩)), (2, .pointer (some ⟨γ1 1, 0, none⟩)), (4, .pointer (some ⟨γ1 0, 1, none⟩)), (7, .pointer (some ⟨γ1 0, 1, none⟩)), (13, .slice pa na ca), (14, .pointer (some ⟨γ1 0, 2, none⟩))]) (fun _ => [bx (γ1 1) (#[.int .i64 0, .slice none 0 0, .slice none 0 0]) 27, bx (γ1 0) (#[.int .i64 now, .slice p n cap, .slice pa na ca]) 27]) ?_ (fun hmx2 => ?_)
  ·
   rintro _ _
   refine any_fork [2, 5, 12] (by kernel_rfl) (by simp) (each_cons _ rfl ?_ (each_cons _ rfl ?_ (each_cons _ rfl ?_ (each_nil))))
   ·
    refine qo0 1 [(2, .go (owns 1 1 1))] [1, 2, 7, 13, 14] [(5, .slice p n cap)] ?_
    refine od_ ?_
    exact wk (hmx3 () trivial) [1, 2, 5, 7, 13, 14] [[_], [_]] [0, 1] rfl rfl
   ·
    refine qo0 1 [(5, .go (owns 1 1 1))] [1, 2, 4, 13, 14] [(8, .slice p n cap)] ?_
    refine od_ ?_
    refine tk (m := 11) [6, 7] [] [1, 2, 4, 13, 14] [(10, .int .i64 ((if (33 : Int) < ((n : Nat) : Int) then 33 else (n : Nat))))] ([]) #[true, true, false, true, true, true, true, true, false, true, true, true, false, false, false, false, false, false, false, false, false] al0 ?_
    exact wk (hmx8 () trivial) [1, 2, 4, 10, 13, 14] [[_], [_]] [0, 1] rfl rfl
   ·
    refine qo0 1 [(12, .go (owns 1 2 1))] [1, 2, 4, 7, 13] [(15, .slice pa na ca)] ?_
    refine od_ ?_
    refine tk (m := 11) [13, 14] [] [1, 2, 4, 7, 13] [(17, .int .i64 ((if (17 : Int) < ((na : Nat) : Int) then 17 else (na : Nat))))] ([]) #[true, true, false, true, true, false, false, false, false, true, true, true, true, true, true, false, false, false, false, false, false] al0 ?_
    exact wk (hmx9 () trivial) [1, 2, 4, 7, 13, 17] [[_], [_]] [0, 1] rfl rfl
  refine any_cutX (V := Unit) (fun _ => True) 14 #[true, true, true, true, true, false, false, false, false, true, false, true, false, false, false, false, false, false, false, false, false] (fun _ => [(1, .pointer (some ⟨γ1 0, 0, none⟩)), (2, .pointer (some ⟨γ1 1, 0, none⟩)), (5, .slice p n cap), (7, .pointer (some ⟨γ1 0, 1, none⟩)), (12, .pointer (some ⟨γ1 0, 2, none⟩)), (14, .pointer (some ⟨γ1 0, 2, none⟩))]) (fun _ => [bx (γ1 1) (#[.int .i64 0, .slice none 0 0, .slice none 0 0]) 27, bx (γ1 0) (#[.int .i64 now, .slice p n cap, .slice pa na ca]) 27]) ?_ (fun hmx1 => ?_)
  ·
   rintro _ _
   refine any_fork [5, 10, 12] (by kernel_rfl) (by simp) (each_cons _ rfl ?_ (each_cons _ rfl ?_ (each_cons _ rfl ?_ (each_nil))))
   ·
    refine qo0 1 [(5, .go (owns 1 1 1))] [1, 2, 5, 12, 14] [(8, .slice p n cap)] ?_
    refine od_ ?_
    refine tk (m := 11) [6, 7] [] [1, 2, 5, 12, 14] [(10, .int .i64 ((if (33 : Int) < ((n : Nat) : Int) then 33 else (n : Nat))))] ([]) #[true, true, true, true, true, true, true, true, false, true, false, true, false, false, false, false, false, false, false, false, false] al0 ?_
    exact wk (hmx6 () trivial) [1, 2, 5, 10, 12, 14] [[_], [_]] [0, 1] rfl rfl
   ·
    refine qo0 1 [(10, .go (owns 1 2 1))] [1, 2, 5, 7, 14] [(13, .slice pa na ca)] ?_
    refine od_ ?_
    exact wk (hmx3 () trivial) [1, 2, 5, 7, 13, 14] [[_], [_]] [0, 1] rfl rfl
   ·
    refine qo0 1 [(12, .go (owns 1 2 1))] [1, 2, 5, 7, 12] [(15, .slice pa na ca)] ?_
    refine od_ ?_
    refine tk (m := 11) [13, 14] [] [1, 2, 5, 7, 12] [(17, .int .i64 ((if (17 : Int) < ((na : Nat) : Int) then 17 else (na : Nat))))] ([]) #[true, true, true, true, true, false, false, false, false, true, false, true, true, true, true, false, false, false, false, false, false] al0 ?_
    exact wk (hmx7 () trivial) [1, 2, 5, 7, 12, 17] [[_], [_]] [0, 1] rfl rfl
  refine any_fork [2, 5, 10, 12] (by kernel_rfl) (by simp) (each_cons _ rfl ?_ (each_cons _ rfl ?_ (each_cons _ rfl ?_ (each_cons _ rfl ?_ (each_nil)))))
  ·
   refine qo0 1 [(2, .go (owns 1 1 1))] [1, 2, 7, 12, 14] [(5, .slice p n cap)] ?_
   refine od_ ?_
   exact wk (hmx1 () trivial) [1, 2, 5, 7, 12, 14] [[_], [_]] [0, 1] rfl rfl
  ·
   refine qo0 1 [(5, .go (owns 1 1 1))] [1, 2, 4, 12, 14] [(8, .slice p n cap)] ?_
   refine od_ ?_
   refine tk (m := 12) [6, 7] [] [1, 2, 4, 12, 14] [(10, .int .i64 ((if (33 : Int) < ((n : Nat) : Int) then 33 else (n : Nat))))] ([]) #[true, true, false, true, true, true, true, true, false, true, false, true, false, false, false, false, false, false, false, false, false] al0 ?_
   exact wk (hmx4 () trivial) [1, 2, 4, 10, 12, 14] [[_], [_]] [0, 1] rfl rfl
  ·
   refine qo0 1 [(10, .go (owns 1 2 1))] [1, 2, 4, 7, 14] [(13, .slice pa na ca)] ?_
   refine od_ ?_
   exact wk (hmx2 () trivial) [1, 2, 4, 7, 13, 14] [[_], [_]] [0, 1] rfl rfl
  ·
   refine qo0 1 [(12, .go (owns 1 2 1))] [1, 2, 4, 7, 12] [(15, .slice pa na ca)] ?_
   refine od_ ?_
   refine tk (m := 12) [13, 14] [] [1, 2, 4, 7, 12] [(17, .int .i64 ((if (17 : Int) < ((na : Nat) : Int) then 17 else (na : Nat))))] ([]) #[true, true, false, true, true, false, false, false, false, true, false, true, true, true, true, false, false, false, false, false, false] al0 ?_
   exact wk (hmx5 () trivial) [1, 2, 4, 7, 12, 17] [[_], [_]] [0, 1] rfl rfl
 rintro _ _
 refine any_nil (by kernel_rfl) ?_
 refine ds_ (sq_ (ao_ (qo0 1 [(0, .go (owns 1 0 3))] [2] [(22, .agg #[.int .i64 now, .slice p ((min n 33)) cap, .slice pa ((min na 17)) ca])] (cP (fun v L' => ∃ q_ m_ c_ Y_ q2_ m2_ c2_ X_, v = .agg #[.int .i64 now, .slice q_ m_ c_, .slice q2_ m2_ c2_] ∧ L' = List.take 2 ([bx (γ1 1) (#[.int .i64 0, .slice none 0 0, .slice none 0 0]) 27, bx (γ1 0) (#[.int .i64 now, .slice p ((min n 33)) cap, .slice pa ((min na 17)) ca]) 27]) ++ (Y_ ++ (X_ ++ List.drop 2 ([bx (γ1 1) (#[.int .i64 0, .slice none 0 0, .slice none 0 0]) 27, bx (γ1 0) (#[.int .i64 now, .slice p ((min n 33)) cap, .slice pa ((min na 17)) ca]) 27]))) ∧ SlO 88 Y_ q_ m_ c_ (((ts.take (min n 33)))) ∧ SlO 47 X_ q2_ m2_ c2_ (((rs.take (min na 17))))) Try.call26 (fun w hw => (copy_t now p ((min n 33)) cap ((ts.take (min n 33))) pa ((min na 17)) ca ((rs.take (min na 17))) w ((hts.kept hw.below).take (min n 33)) (by rw [List.length_take]; omega) (by omega) ((hrs.kept hw.below).take (min na 17)) (by rw [List.length_take]; omega) (by omega)).mono fun e w' ⟨q_, m_, c_, Y_, q2_, m2_, c2_, X_, he, h1, h2, hb, hY⟩ => ⟨_, _, he, ⟨q_, m_, c_, Y_, q2_, m2_, c2_, X_, rfl, rfl, h1, h2⟩, hw.joinT hb hY 2⟩) ?_))))
 rintro v508 L508 ⟨q508, m508, c508, Y508, p508, k508, d508, Yx508, rfl, rfl, hO508, hP508⟩
 have hm508 := hO508.len
 have hn508 := hP508.len
 refine mo0 1 [(2, .go (owns 0 0 3))] [2] (fun _ => []) (fun _ L => (L.set 0 (bx (γ1 1) (#[.int .i64 now, .slice q508 m508 c508, .slice p508 k508 d508]) 27))) (fun _ => on_ (ds_ (rt (owns 0 0 3) (.agg #[.int .i64 now, .slice q508 m508 c508, .slice p508 k508 d508]) ?_)))
 rw [take_min hn] at hO508
 rw [take_min hna] at hP508
 exact fun w' hw => ⟨_, _, _, _, _, _, _, _, rfl, hO508, hP508, hw.below, two_tails (Hs.pick [[bx (γ1 1) (#[.int .i64 now, .slice q508 m508 c508, .slice p508 k508 d508]) 27], [bx (γ1 0) (#[.int .i64 now, .slice p ((min n 33)) cap, .slice pa ((min na 17)) ca]) 27], Y508, Yx508] [2, 3] [0, 1] (by kernel_rfl) hw)⟩

end Go.Proofs.Ytdbamgbgnpadjaa

/-! Alarms: what stands after time has passed, number by number; plain. -/
namespace Go.Proofs.Ytdbamgbgnpadjaa
open Go Go.RowKit

section
variable {now k v at_ to nx : Int} {ts : List Tim} {rs : List Alm} {x y : Alm} {t : Tim} {j : Nat}
/-- What becomes of a timer that has fired. -/
def finT (to : Int) (rs : List Alm) (t : Tim) : Option Tim := if t.id < 16 then match getK Alm.vcpu rs (t.id + 1) with
  | some x => (nextA x t.due to).map fun nx => ⟨t.id, nx⟩
  | none => none
  else none
theorem fin_lo (h : t.id < 16) (hx : getK Alm.vcpu rs (t.id + 1) = some x) : finT to rs t = (nextA x t.due to).map fun nx => ⟨t.id, nx⟩ := by simp only [finT, if_pos h, hx]
theorem fin_hi (h : ¬ t.id < 16) : finT to rs t = none := by simp only [finT, if_neg h]
theorem take_pair {α : Type} {R : α → α → Prop} {l : List α} {a b : α} (hp : l.Pairwise R) (ha : a ∈ l.take j) (hb : l[j]? = some b) : R a b := by
  obtain ⟨i, hi⟩ := List.mem_iff_getElem?.1 ha
  rw [List.getElem?_take] at hi
  split at hi
  · rename_i hij
    obtain ⟨h1, e1⟩ := List.getElem?_eq_some_iff.1 hi
    obtain ⟨h2, e2⟩ := List.getElem?_eq_some_iff.1 hb
    rw [← e1, ← e2]
    exact List.pairwise_iff_getElem.1 hp i j h1 h2 hij
  · cases hi
theorem left_none (hg : GoodW now ts) (h : t ∈ sortT (duL ts to)) : getK Tim.id (leL ts to) t.id = none := by
  refine getK_none.2 fun y hy e => ?_
  have h1 := mem_leL.1 hy
  have h2 := fired_tm hg h
  have := hg.rs.inj h1.1 h2.2.2.2.2 e
  subst this
  omega
theorem states (g : GoodA now ts rs) (h1 : now ≤ to) (h2 : to ≤ 1125899906842624) : ∀ j ≤ (sortT (duL ts to)).length,
    (∀ k, (∀ t ∈ (sortT (duL ts to)).take j, t.id ≠ k) → getK Tim.id (rgT to ts rs j) k = getK Tim.id (leL ts to) k) ∧
    (∀ t ∈ (sortT (duL ts to)).take j, getK Tim.id (rgT to ts rs j) t.id = finT to rs t) ∧
    (∀ v, (∀ t ∈ (sortT (duL ts to)).take j, t.id < 16 → t.id + 1 ≠ v) → getK Alm.vcpu (rgR to ts rs j) v = getK Alm.vcpu rs v) ∧
    (∀ t ∈ (sortT (duL ts to)).take j, t.id < 16 → getK Alm.vcpu (rgR to ts rs j) (t.id + 1) = if (finT to rs t).isSome then getK Alm.vcpu rs (t.id + 1) else none)
  | 0, _ => ⟨fun _ _ => rfl, fun t ht => by simp at ht, fun _ _ => rfl, fun t ht => by simp at ht⟩
  | j + 1, hj => by
    obtain ⟨hT1, hT2, hR1, hR2⟩ := states g h1 h2 j (by omega)
    obtain ⟨hI, _, hR0⟩ := rings_inv g h1 h2 j (by omega)
    obtain ⟨t, hx⟩ : ∃ t, (sortT (duL ts to))[j]? = some t := ⟨_, List.getElem?_eq_getElem (by omega)⟩
    have hne := fun {b} (hb : b ∈ (sortT (duL ts to)).take j) => take_pair (fired_ids g.gw (to := to)) hb hx
    have hnl := left_none g.gw (to := to) (List.mem_of_getElem? hx)
    have hTt : getK Tim.id (rgT to ts rs j) t.id = none := by rw [hT1 t.id fun b hb => hne hb]; exact hnl
    have hrT : Ris Tim.id (rgT to ts rs j) := (wheel_iff.1 hI.wh').rs
    rw [take_one hx]
    by_cases hi : t.id < 16
    · obtain ⟨x, hz⟩ := hI.pn' t (mem_at hx) hi
      have hz2 := hz
      rw [hR0 t (mem_at hx)] at hz2
      have hzv := (getK_mem hz).2
      cases hn : nextA x t.due to with
      | some nx =>
        have e := rg_go hx hi hz hn
        have ef : finT to rs t = some ⟨t.id, nx⟩ := by rw [fin_lo hi hz2, hn]; rfl
        rw [rgT_of e, rgR_of e]
        refine ⟨fun k hk => ?_, fun b hb => ?_, fun v hv => ?_, fun b hb hbi => ?_⟩
        · rw [get_tput hrT (fun e => hk t (by simp) e.symm)]
          exact hT1 k fun b hb => hk b (by simp [hb])
        · rcases List.mem_append.1 hb with hb | hb
          · rw [get_tput hrT (hne hb)]; exact hT2 b hb
          · rw [List.mem_singleton.1 hb, get_tput_self hrT, ef]
        · exact hR1 v fun b hb => hv b (by simp [hb])
        · rcases List.mem_append.1 hb with hb | hb
          · exact hR2 b hb hbi
          · rw [List.mem_singleton.1 hb, ef, hz, hz2]; rfl
      | none =>
        have e := rg_no hx hi hz hn
        have ef : finT to rs t = none := by rw [fin_lo hi hz2, hn]; rfl
        rw [rgT_of e, rgR_of e, hzv]
        refine ⟨fun k hk => ?_, fun b hb => ?_, fun v hv => ?_, fun b hb hbi => ?_⟩
        · exact hT1 k fun b hb => hk b (by simp [hb])
        · rcases List.mem_append.1 hb with hb | hb
          · exact hT2 b hb
          · rw [List.mem_singleton.1 hb, hTt, ef]
        · rw [get_rdrop hI.rr' (fun e => hv t (by simp) hi e.symm)]
          exact hR1 v fun b hb => hv b (by simp [hb])
        · rcases List.mem_append.1 hb with hb | hb
          · rw [get_rdrop hI.rr' (by have := hne hb; omega)]; exact hR2 b hb hbi
          · rw [List.mem_singleton.1 hb, ef, get_rdrop_self]; rfl
    · have e := rg_hi (rs := rs) hx hi
      have ef : finT to rs t = none := fin_hi hi
      rw [rgT_of e, rgR_of e]
      refine ⟨fun k hk => ?_, fun b hb => ?_, fun v hv => ?_, fun b hb hbi => ?_⟩
      · exact hT1 k fun b hb => hk b (by simp [hb])
      · rcases List.mem_append.1 hb with hb | hb
        · exact hT2 b hb
        · rw [List.mem_singleton.1 hb, hTt, ef]
      · exact hR1 v fun b hb => hv b (by simp [hb])
      · rcases List.mem_append.1 hb with hb | hb
        · exact hR2 b hb hbi
        · rw [List.mem_singleton.1 hb] at hbi; exact absurd hbi hi
/-- The timer of a number, after. -/
theorem get_left (hg : GoodW now ts) : getK Tim.id (leL ts to) k = match getK Tim.id ts k with
    | some t => if to < t.due then some t else none
    | none => none := by
  have hr : Ris Tim.id (leL ts to) := by rw [leL_filter]; exact hg.rs.filter _
  cases e : getK Tim.id ts k with
  | none => exact getK_none.2 fun y hy => getK_none.1 e y (mem_leL.1 hy).1
  | some t =>
    have hm := (getK_iff hg.rs).1 e
    simp only
    split
    · rename_i h; exact (getK_iff hr).2 ⟨mem_leL.2 ⟨hm.1, h⟩, hm.2⟩
    · rename_i h
      refine getK_none.2 fun y hy hk => ?_
      have h1 := mem_leL.1 hy
      have := hg.rs.inj h1.1 hm.1 (by rw [hk, hm.2])
      subst this
      exact h h1.2
theorem after_T (g : GoodA now ts rs) (h1 : now ≤ to) (h2 : to ≤ 1125899906842624) (k : Int) : getK Tim.id (ringsV to ts rs).1 k = match getK Tim.id ts k with
    | some t => if to < t.due then some t else finT to rs t
    | none => none := by
  obtain ⟨hT1, hT2, _, _⟩ := states g h1 h2 _ (Nat.le_refl _)
  rw [List.take_length] at hT1 hT2
  have e : (ringsV to ts rs).1 = rgT to ts rs (sortT (duL ts to)).length := by rw [rgT, rg_end (Nat.le_refl _)]
  rw [e]
  by_cases hf : ∃ t ∈ sortT (duL ts to), t.id = k
  · obtain ⟨t, ht, rfl⟩ := hf
    have hm := fired_tm g.gw ht
    rw [hT2 t ht, (getK_iff g.gw.rs).2 ⟨hm.2.2.2.2, rfl⟩]
    simp only
    rw [if_neg (by omega)]
  · rw [hT1 k fun t ht e => hf ⟨t, ht, e⟩, get_left g.gw]
    cases e : getK Tim.id ts k with
    | none => rfl
    | some t =>
      have hm := getK_mem e
      simp only
      split
      · rfl
      · rename_i h; exact absurd ⟨t, mem_sortT.2 (mem_duL.2 ⟨hm.1, by omega⟩), hm.2⟩ hf
theorem after_R (g : GoodA now ts rs) (h1 : now ≤ to) (h2 : to ≤ 1125899906842624) (v : Int) (hv1 : 1 ≤ v) (hv2 : v ≤ 16) : getK Alm.vcpu (ringsV to ts rs).2.1 v = match getK Tim.id ts (v - 1) with
    | some t => if to < t.due then getK Alm.vcpu rs v else if (finT to rs t).isSome then getK Alm.vcpu rs v else none
    | none => none := by
  obtain ⟨_, _, hR1, hR2⟩ := states g h1 h2 _ (Nat.le_refl _)
  rw [List.take_length] at hR1 hR2
  have e : (ringsV to ts rs).2.1 = rgR to ts rs (sortT (duL ts to)).length := by rw [rgR, rg_end (Nat.le_refl _)]
  rw [e]
  by_cases hf : ∃ t ∈ sortT (duL ts to), t.id = v - 1
  · obtain ⟨t, ht, hk⟩ := hf
    have hm := fired_tm g.gw ht
    have hv : v = t.id + 1 := by omega
    subst hv
    rw [hR2 t ht (by omega), show t.id + 1 - 1 = t.id by omega, (getK_iff g.gw.rs).2 ⟨hm.2.2.2.2, rfl⟩]
    simp only
    rw [if_neg (show ¬ to < t.due by omega)]
  · rw [hR1 v fun t ht _ e => hf ⟨t, ht, by omega⟩]
    cases e : getK Tim.id ts (v - 1) with
    | none =>
      have := g.lk v hv1 hv2
      rw [e] at this
      simp only
      exact Option.isNone_iff_eq_none.1 (by cases h : getK Alm.vcpu rs v with
        | none => rfl
        | some x => rw [h] at this; cases this)
    | some t =>
      have hm := getK_mem e
      simp only
      rw [if_pos]
      have : ¬ t.due ≤ to := fun h => hf ⟨t, mem_sortT.2 (mem_duL.2 ⟨hm.1, h⟩), hm.2⟩
      omega
end
end Go.Proofs.Ytdbamgbgnpadjaa

/-! Alarms: by way of another time; plain. -/
namespace Go.Proofs.Ytdbamgbgnpadjaa
open Go Go.RowKit

section
variable {now k v at_ to nx one two : Int} {ts : List Tim} {rs : List Alm} {x y : Alm} {t : Tim} {j : Nat}
theorem after_good (g : GoodA now ts rs) (h1 : now ≤ to) (h2 : to ≤ 1125899906842624) : GoodA to (ringsV to ts rs).1 (ringsV to ts rs).2.1 := by
  have hI := rings_good g h1 h2
  have e := rg_end (rs := rs) (to := to) (ts := ts) (Nat.le_refl (sortT (duL ts to)).length)
  refine ⟨by rw [← e]; exact hI.rr, by rw [← e]; exact hI.al, by rw [← e]; exact hI.wh, fun v hv1 hv2 => ?_⟩
  rw [after_T g h1 h2, after_R g h1 h2 v hv1 hv2]
  have hl := g.lk v hv1 hv2
  cases hk : getK Tim.id ts (v - 1) with
  | none => rfl
  | some t =>
    rw [hk] at hl
    obtain ⟨x, hx⟩ := Option.isSome_iff_exists.1 hl.symm
    simp only [hx]
    split
    · rfl
    · cases finT to rs t <;> rfl
/-- How often one has rung: those that were missed counted. -/
def wgt (v p : Int) (r : Rng) : Int := if r.vcpu = v ∧ r.port = p then 1 + r.missed else 0
def cntR (l : List Rng) (v p : Int) : Int := (l.map (wgt v p)).sum
end
end Go.Proofs.Ytdbamgbgnpadjaa

/-! The walker: maps of one's own whose keys are asked (arrays, structs). -/
namespace Go.Proofs.Ytdbamgbgnpadjaa
open Go Go.RowKit

structure MapKs {K β : Type} (G : K → Prop) (κ : K → Value) (enc : β → Value) (es : Array MapEntry) (D : List (K × β)) : Prop where
  good : ∀ p ∈ D, G p.1
  keys : es.toList.map (fun e => (e.key, e.val)) = D.map fun p => (κ p.1, enc p.2)
theorem MapKs.nil {K β : Type} {G : K → Prop} {κ : K → Value} {enc : β → Value} : MapKs G κ enc #[] ([] : List (K × β)) := ⟨fun _ h => (by cases h), rfl⟩
theorem MapKs.size {K β : Type} {G : K → Prop} {κ : K → Value} {enc : β → Value} {es : Array MapEntry} {D : List (K × β)} (h : MapKs G κ enc es D) : es.size = D.length := by
  have := congrArg List.length h.keys
  simpa using this
section
variable {K β : Type} [DecidableEq K]
def kget : List (K × β) → K → Option β
  | [], _ => none
  | p :: D, k => if p.1 = k then some p.2 else kget D k
def kupd : List (K × β) → K → β → List (K × β)
  | [], k, v => [(k, v)]
  | p :: D, k, v => if p.1 = k then (k, v) :: D else p :: kupd D k v
/-- What is known of a type of keys. -/
structure KeyOk (P : Program) (kt : TypeId) (G : K → Prop) (κ : K → Value) : Prop where
  chk : ∀ (e : Bool) (k : K) (w : World), G k → (Instr.checkKey e 10000 kt (κ k)).run P w = .ok () w
  eq : ∀ (a b : K) (w : World), G a → G b → (Op.equal kt (κ a) (κ b)).run P w = .ok (decide (a = b)) w
  now : ∃ d, P.underlying kt = some d ∧ ∀ a b, Instr.sameNow d (κ a) (κ b) = none
  stays : ∀ (k : K) (w : World), G k → (Instr.keyThatStays (κ k) (κ k)).run P w = .ok (κ k) w
variable {P : Program} {w : World} {kt : TypeId} {G : K → Prop} {κ : K → Value} {enc : β → Value} {es : Array MapEntry} {D : List (K × β)} {k : K} {v : β} {ck : Nat}
theorem kupd_good : ∀ {D : List (K × β)}, (∀ p ∈ D, G p.1) → G k → ∀ p ∈ kupd D k v, G p.1
  | [], _, hk, p, hp => by simp only [kupd, List.mem_singleton] at hp; subst hp; exact hk
  | q :: D, h, hk, p, hp => by
    simp only [kupd] at hp
    split at hp
    · rcases List.mem_cons.1 hp with e | e
      · subst e; exact hk
      · exact h p (by simp [e])
    · rcases List.mem_cons.1 hp with e | e
      · subst e; exact h p (by simp)
      · exact kupd_good (fun r hr => h r (by simp [hr])) hk p e
theorem asking_is (hK : KeyOk P kt G κ) (hk0 : G k) (w : World) : ∀ (l : List MapEntry) (D : List (K × β)) (i : Nat), (∀ p ∈ D, G p.1) → l.map (fun e => (e.key, e.val)) = D.map (fun p => (κ p.1, enc p.2)) →
    ((Instr.findAsking kt (κ k) l i).run P w = .ok none w ∧ kget D k = none ∧ ∀ u, kupd D k u = D ++ [(k, u)]) ∨
    ∃ j b, (Instr.findAsking kt (κ k) l i).run P w = .ok (some (i + j, enc b)) w ∧ kget D k = some b ∧ j < D.length ∧ (D[j]?).map (·.1) = some k ∧ ∀ u, kupd D k u = D.set j (k, u)
  | [], [], i, _, _ => .inl ⟨by simp [Instr.findAsking], rfl, fun _ => rfl⟩
  | [], _ :: _, _, _, h => by simp at h
  | _ :: _, [], _, _, h => by simp at h
  | e :: l, p :: D, i, hG, h => by
    have hp0 : G p.1 := hG p (by simp)
    have heq := hK.eq k p.1 w hk0 hp0
    simp only [List.map_cons, List.cons.injEq, Prod.mk.injEq] at h
    obtain ⟨⟨h1, h2⟩, h3⟩ := h
    by_cases hk : k = p.1
    · subst hk
      right
      refine ⟨0, p.2, ?_, by simp [kget], by simp, by simp, fun u => by simp [kupd]⟩
      simp [Instr.findAsking, h1, h2, heq]
    · have hk' : ¬ p.1 = k := fun e => hk e.symm
      rcases asking_is hK hk0 w l D (i + 1) (fun q hq => hG q (by simp [hq])) h3 with ⟨a, b, c⟩ | ⟨j, b, a, c, d, e1, f⟩
      · left
        refine ⟨?_, by simp [kget, hk', b], fun u => by simp [kupd, hk', c u]⟩
        simp [Instr.findAsking, h1, heq, hk, a]
      · right
        refine ⟨j + 1, b, ?_, by simp [kget, hk', c], by simp; omega, by simpa using e1, fun u => by simp [kupd, hk', f u]⟩
        simp only [Instr.findAsking, h1]
        simp [heq, hk, a]
        omega
theorem findKey_is (hK : KeyOk P kt G κ) (hk0 : G k) (w : World) (h : MapKs G κ enc es D) :
    ((Instr.findKey kt (κ k) es.toList).run P w = .ok none w ∧ kget D k = none ∧ ∀ u, kupd D k u = D ++ [(k, u)]) ∨
    ∃ j b, (Instr.findKey kt (κ k) es.toList).run P w = .ok (some (j, enc b)) w ∧ kget D k = some b ∧ j < D.length ∧ (D[j]?).map (·.1) = some k ∧ ∀ u, kupd D k u = D.set j (k, u) := by
  obtain ⟨d, hd, hn⟩ := hK.now
  have e : (Instr.findKey kt (κ k) es.toList).run P w = (Instr.findAsking kt (κ k) es.toList 0).run P w := by
    cases hl : es.toList with
    | nil => simp [Instr.findKey, run_underlying hd, Instr.findNow, Instr.findAsking]
    | cons x l =>
      have hk := h.keys
      rw [hl] at hk
      cases D with
      | nil => simp at hk
      | cons p D =>
        simp only [List.map_cons, List.cons.injEq, Prod.mk.injEq] at hk
        simp [Instr.findKey, run_underlying hd, Instr.findNow, hk.1.1, hn]
  rw [e]
  have := asking_is (k := k) hK hk0 w es.toList D 0 h.good h.keys
  simpa using this
variable {t et : TypeId} {r : Nat}
theorem run_lookupK (hK : KeyOk P kt G κ) (hk0 : G k) (ht : P.underlying t = some (.map kt et)) {i : TypeInfo} {z : Value} (hi : P.info? et = some i) (hz : i.zero = some z) (hb : w.heap[r]? = some (.map es ck)) (hM : MapKs G κ enc es D) (c : Bool) :
    (Instr.lookup t (.map (some r)) (κ k) c).run P w = .ok (if c then .tuple #[((kget D k).map enc).getD z, .bool (kget D k).isSome] else ((kget D k).map enc).getD z) w := by
  have hck := fun e => hK.chk e k w hk0
  rcases findKey_is hK hk0 w hM (k := k) with ⟨hf, b, _⟩ | ⟨j, b, hf, c', _, _, _⟩
  · cases c <;> simp [Instr.lookup, run_underlying ht, MapKept.run_getObj_map hb, hck, hf, zeroValue, typeInfo, hi, hz, b]
  · cases c <;> simp [Instr.lookup, run_underlying ht, MapKept.run_getObj_map hb, hck, hf, c']
theorem run_updateK (hK : KeyOk P kt G κ) (hk0 : G k) (ht : P.underlying t = some (.map kt et)) (hb : w.heap[r]? = some (.map es ck)) (hM : MapKs G κ enc es D) (v : β) :
    ∃ es' ck', (Instr.mapUpdate t (.map (some r)) (κ k) (enc v)).run P w = .ok () { w with heap := w.heap.setIfInBounds r (.map es' ck') } ∧ MapKs G κ enc es' (kupd D k v) := by
  have hck := fun e => hK.chk e k w hk0
  have hst := hK.stays k w hk0
  rcases findKey_is hK hk0 w hM (k := k) with ⟨hf, _, b⟩ | ⟨j, b, hf, c', hj, hjk, d⟩
  · refine ⟨es.push ⟨κ k, enc v, ck⟩, ck + 1, ?_, ⟨kupd_good hM.good hk0, ?_⟩⟩
    · simp [Instr.mapUpdate, run_underlying ht, MapKept.run_getObj_map hb, hck, hf, MapKept.run_setObj_map _ hb]
    · rw [b v, Array.toList_push, List.map_append, List.map_append, hM.keys]; rfl
  · have hsz := hM.size
    have hjs : j < es.size := by omega
    have hkey : es[j].key = κ k := by
      have h1 := congrArg (fun z => z[j]?) hM.keys
      simp only [List.getElem?_map, Array.getElem?_toList, Array.getElem?_eq_getElem hjs, Option.map_some] at h1
      rcases hD : D[j]? with _ | p
      · rw [hD] at hjk; cases hjk
      · rw [hD] at hjk h1
        simp only [Option.map_some, Option.some.injEq, Prod.mk.injEq] at hjk h1
        rw [h1.1, hjk]
    refine ⟨es.modify j fun e => { e with key := κ k, val := enc v }, ck, ?_, ⟨kupd_good hM.good hk0, ?_⟩⟩
    · have hj2 : es[j]? = some es[j] := Array.getElem?_eq_getElem hjs
      simp [Instr.mapUpdate, run_underlying ht, MapKept.run_getObj_map hb, hck, hf, hj2, hkey, hst, MapKept.run_setObj_map _ hb]
    · rw [d v]
      apply List.ext_getElem?
      intro i
      rw [List.getElem?_map, List.getElem?_map, Array.getElem?_toList, Array.getElem?_modify, List.getElem?_set]
      have h1 := congrArg (fun z => z[i]?) hM.keys
      simp only [List.getElem?_map, Array.getElem?_toList] at h1
      by_cases hij : j = i
      · subst hij
        rw [if_pos rfl, if_pos rfl, if_pos hj, Array.getElem?_eq_getElem hjs]; rfl
      · rw [if_neg hij, if_neg hij, h1]
end
section
variable {E : Env} {k : List Fr} {l : Sl} {L : List Ob} {all os : List Oper} {o : Oper} {i : Nat} {K β : Type} [DecidableEq K] {G : K → Prop} {κ : K → Value} {enc : β → Value} {es : Array MapEntry} {ck : Nat} {D : List (K × β)}
/-- A map's type, asked by the kernel. -/
def mapK (P : Program) (t kt : TypeId) (z : Value) : Prop := ∃ et, P.underlying t = some (.map kt et) ∧ (P.info? et).bind (fun i => i.zero) = some z
theorem ops_lookupK (j : Nat) {t kt : TypeId} {x y : Operand} {c : Bool} {g : Nat} {kk : K} (z u : Value) (hK : KeyOk E.P kt G κ) (hk0 : G kk) (ho : o.op = .lookup t x y c) (hw : wantL all l o = some true) (hd : (okD E.n o.dst && knownO l o) = true)
    (hx : look l x = .map (some g)) (hy : look l y = κ kk) (hT : mapK E.P t kt z) (hj : L[j]? = some (g, .map es ck)) (hM : MapKs G κ enc es D) (hu : (if c then .tuple #[((kget D kk).map enc).getD z, .bool (kget D kk).isSome] else ((kget D kk).map enc).getD z) = u)
    (h : Ops E k all os (i + 1) (putL o.dst u l) L) : Ops E k all (o :: os) i l L := by
  obtain ⟨et, h1, h34⟩ := hT
  obtain ⟨inf, h3, h4⟩ := Option.bind_eq_some_iff.1 h34
  refine ⟨fun a w ha hs => ?_⟩
  simp only [Bool.and_eq_true] at hd
  have hg := wantL_spec ha hw
  refine wpListIn_step fun K hK2 => ?_
  rw [if_pos hg]
  refine ⟨fun _ _ => trivial, ?_⟩
  rw [Oper.semAt_eq _ _ _ (fun c e => by rw [ho] at e; cases e), look_exec ha hd.2]
  have hr := run_lookupK hK hk0 h1 h3 h4 (hs.row j hj) hM (k := kk) c
  have e : (execOp (look l) o).run E.P w = .ok (.value u) w := by
    simp [execOp, ho, hx, hy, hr, hu]
  rw [e]
  exact hK2 _ _ (h.out _ _ (ha.put hd.1 _) hs)
theorem ops_updateK (j : Nat) {t kt : TypeId} {x y v : Operand} {g : Nat} {kk : K} (b : β) (z : Value) (hK : KeyOk E.P kt G κ) (hk0 : G kk) (ho : o.op = .mapUpdate t x y v) (hw : wantL all l o = some true) (hd : (okD E.n o.dst && knownO l o) = true)
    (hx : look l x = .map (some g)) (hy : look l y = κ kk) (hv : look l v = enc b) (hT : mapK E.P t kt z) (hj : L[j]? = some (g, .map es ck)) (hM : MapKs G κ enc es D)
    (h : ∀ es' ck', MapKs G κ enc es' (kupd D kk b) → Ops E k all os (i + 1) (putL o.dst undef l) (L.set j (g, .map es' ck'))) : Ops E k all (o :: os) i l L := by
  obtain ⟨et, h1, h34⟩ := hT
  refine ⟨fun a w ha hs => ?_⟩
  simp only [Bool.and_eq_true] at hd
  have hg := wantL_spec ha hw
  refine wpListIn_step fun K hK2 => ?_
  rw [if_pos hg]
  refine ⟨fun _ _ => trivial, ?_⟩
  rw [Oper.semAt_eq _ _ _ (fun c e => by rw [ho] at e; cases e), look_exec ha hd.2]
  obtain ⟨es', ck', hr, hM'⟩ := run_updateK hK hk0 h1 (hs.row j hj) hM (k := kk) b
  have e : (execOp (look l) o).run E.P w = .ok .skip { w with heap := w.heap.setIfInBounds g (.map es' ck') } := by
    simp [execOp, ho, hx, hy, hv, hr]
  rw [e]
  exact hK2 _ _ ((h es' ck' hM').out _ _ (ha.put hd.1 _) (hs.turn j hj (turn_obj (hs.row j hj) _)))
end
end Go.Proofs.Ytdbamgbgnpadjaa

/-! Alarms: the rings' order; plain. -/
namespace Go.Proofs.Ytdbamgbgnpadjaa
open Go Go.RowKit

section
variable {now k v at_ to nx : Int} {ts : List Tim} {rs : List Alm} {x y : Alm} {t : Tim} {i j : Nat} {r r' : Rng}
theorem ring_at (g : GoodA now ts rs) (h1 : now ≤ to) (h2 : to ≤ 1125899906842624) (hr : (ringsV to ts rs).2.2[j]? = some r) : ∃ t, (sortT (duL ts to))[j]? = some t ∧ r = ringOf to rs t := by
  rw [rings_are g h1 h2, List.getElem?_map] at hr
  cases e : (sortT (duL ts to))[j]? with
  | none => rw [e] at hr; cases hr
  | some t => rw [e] at hr; cases hr; exact ⟨t, rfl, rfl⟩
/-- A ring, and the timer it comes of. -/
theorem ring_is (g : GoodA now ts rs) (hx : (sortT (duL ts to))[j]? = some t) : (now < t.due ∧ t.due ≤ to ∧ t ∈ ts ∧ 0 ≤ t.id ∧ t.id < 32) ∧ (ringOf to rs t).at_ = t.due ∧
    ((t.id < 16 ∧ ∃ x, getK Alm.vcpu rs (t.id + 1) = some x ∧ almB x = true ∧ ringOf to rs t = ⟨t.id + 1, x.port, t.due, missA x t.due to⟩) ∨ (¬ t.id < 16 ∧ ringOf to rs t = ⟨t.id - 16 + 1, 0, t.due, 0⟩)) := by
  have hm := fired_tm g.gw (List.mem_of_getElem? hx)
  refine ⟨⟨hm.2.2.1, hm.2.2.2.1, hm.2.2.2.2, hm.1, hm.2.1⟩, ?_⟩
  by_cases hi : t.id < 16
  · have hl := g.lk (t.id + 1) (by omega) (by omega)
    rw [show t.id + 1 - 1 = t.id by omega, (getK_iff g.gw.rs).2 ⟨hm.2.2.2.2, rfl⟩] at hl
    obtain ⟨x, hx⟩ := Option.isSome_iff_exists.1 hl.symm
    rw [ring_lo hi hx]
    exact ⟨rfl, .inl ⟨hi, x, hx, g.al x (getK_mem hx).1, rfl⟩⟩
  · rw [ring_sl hi]
    exact ⟨rfl, .inr ⟨hi, rfl⟩⟩
theorem fires_at {l : List Tim} (h : Fires l) (hij : i < j) {a b : Tim} (ha : l[i]? = some a) (hb : l[j]? = some b) : a.due ≤ b.due := by
  obtain ⟨h1, e1⟩ := List.getElem?_eq_some_iff.1 ha
  obtain ⟨h2, e2⟩ := List.getElem?_eq_some_iff.1 hb
  have := List.pairwise_iff_getElem.1 h i j h1 h2 hij
  rw [e1, e2] at this
  omega
theorem fired_sorted (hg : GoodW now ts) : Fires (sortT (duL ts to)) := fires_sort (by
  rw [duL_filter]; exact (ris_nodup hg.rs).filter _)
theorem order_le (g : GoodA now ts rs) (h1 : now ≤ to) (h2 : to ≤ 1125899906842624) (hij : i < j) (hr : (ringsV to ts rs).2.2[i]? = some r) (hr' : (ringsV to ts rs).2.2[j]? = some r') : r.at_ ≤ r'.at_ := by
  obtain ⟨a, ha, rfl⟩ := ring_at g h1 h2 hr
  obtain ⟨b, hb, rfl⟩ := ring_at g h1 h2 hr'
  rw [(ring_is g ha).2.1, (ring_is g hb).2.1]
  exact fires_at (fired_sorted g.gw) hij ha hb
/-- Each once. -/
theorem order_once (g : GoodA now ts rs) (h1 : now ≤ to) (h2 : to ≤ 1125899906842624) (hij : i < j) (hr : (ringsV to ts rs).2.2[i]? = some r) (hr' : (ringsV to ts rs).2.2[j]? = some r') : ¬ (r.vcpu = r'.vcpu ∧ min r.port 1 = min r'.port 1) := by
  obtain ⟨a, ha, rfl⟩ := ring_at g h1 h2 hr
  obtain ⟨b, hb, rfl⟩ := ring_at g h1 h2 hr'
  have hne : a.id ≠ b.id := by
    obtain ⟨l1, e1⟩ := List.getElem?_eq_some_iff.1 ha
    obtain ⟨l2, e2⟩ := List.getElem?_eq_some_iff.1 hb
    have := List.pairwise_iff_getElem.1 (fired_ids g.gw (to := to)) i j l1 l2 hij
    rwa [e1, e2] at this
  rcases (ring_is g ha).2.2 with ⟨ia, x, _, hx, e1⟩ | ⟨ia, e1⟩ <;> rcases (ring_is g hb).2.2 with ⟨ib, z, _, hz, e2⟩ | ⟨ib, e2⟩ <;> rw [e1, e2] <;> simp only <;> rintro ⟨h3, h4⟩
  · omega
  · have := alm_every hx; omega
  · have := alm_every hz; omega
  · omega
theorem order_none (g : GoodA now ts rs) (h1 : now ≤ to) (h2 : to ≤ 1125899906842624) : (ringsV to ts rs).2.2 = [] ↔ ∀ t ∈ ts, to < t.due := by
  rw [rings_are g h1 h2, List.map_eq_nil_iff]
  constructor
  · intro h t ht
    have : ¬ t.due ≤ to := fun hd => by have := mem_sortT.2 (mem_duL.2 ⟨ht, hd⟩); rw [h] at this; cases this
    omega
  · intro h
    exact List.eq_nil_iff_forall_not_mem.2 fun t ht => by have := mem_duL.1 (mem_sortT.1 ht); have := h t this.1; omega
theorem order_first (g : GoodA now ts rs) (h1 : now ≤ to) (h2 : to ≤ 1125899906842624) (hr : (ringsV to ts rs).2.2[0]? = some r) : r.at_ = leastV ts ∧ leastV ts ≤ to ∧ ts ≠ [] := by
  obtain ⟨a, ha, rfl⟩ := ring_at g h1 h2 hr
  have hm := (ring_is g ha).1
  have hne : ts ≠ [] := fun e => by have := hm.2.2.1; rw [e] at this; cases this
  obtain ⟨⟨x, hx, ex⟩, hall⟩ := nx_mem g.wh hne
  have hle := hall a hm.2.2.1
  rw [(ring_is g ha).2.1]
  refine ⟨?_, by omega, hne⟩
  have hxd : x ∈ sortT (duL ts to) := mem_sortT.2 (mem_duL.2 ⟨hx, by omega⟩)
  obtain ⟨i, hi⟩ := List.mem_iff_getElem?.1 hxd
  rcases Nat.eq_zero_or_pos i with h0 | h0
  · subst h0; rw [ha] at hi; cases hi; omega
  · have := fires_at (fired_sorted g.gw) h0 ha hi; omega
theorem order_any (g : GoodA now ts rs) (h1 : now ≤ to) (h2 : to ≤ 1125899906842624) (hne : ts ≠ []) (h : leastV ts ≤ to) : (ringsV to ts rs).2.2 ≠ [] := fun e => by
  obtain ⟨⟨x, hx, ex⟩, _⟩ := nx_mem g.wh hne
  have := (order_none g h1 h2).1 e x hx
  omega
theorem order_after (g : GoodA now ts rs) (h1 : now ≤ to) (h2 : to ≤ 1125899906842624) (hne : (ringsV to ts rs).1 ≠ []) : to < leastV (ringsV to ts rs).1 := by
  have ga := after_good g h1 h2
  obtain ⟨⟨x, hx, ex⟩, _⟩ := nx_mem ga.wh hne
  have := ga.gw.tm x hx
  omega
theorem order_woken (g : GoodA now ts rs) (h1 : now ≤ to) (h2 : to ≤ 1125899906842624) (ht : t ∈ ts) (hd : t.due ≤ to) (hi : ¬ t.id < 16) : slpO to (ringsV to ts rs).1 (ringsV to ts rs).2.1 (t.id - 16 + 1) = none := by
  unfold slpO
  split
  · rw [show 15 + (t.id - 16 + 1) = t.id by omega, after_T g h1 h2, (getK_iff g.gw.rs).2 ⟨ht, rfl⟩]
    simp only
    rw [if_neg (by omega), fin_hi hi]
  · rfl
/-- Whose rings have been met. -/
def keyR (r : Rng) : Int × Int := (r.vcpu, min r.port 1)
def metL (l : List Rng) : List ((Int × Int) × Bool) := l.foldl (fun D r => kupd D (keyR r) true) []
theorem met_on (hx : (ringsV to ts rs).2.2[j]? = some r) : metL ((ringsV to ts rs).2.2.take (j + 1)) = kupd (metL ((ringsV to ts rs).2.2.take j)) (keyR r) true := by
  rw [take_one hx]; simp [metL]
theorem kget_upd {K β : Type} [DecidableEq K] {k k' : K} {b : β} : ∀ {D : List (K × β)}, k ≠ k' → kget (kupd D k' b) k = kget D k
  | [], h => by
    have h3 : ¬ k' = k := fun e => h e.symm
    simp [kupd, kget, h3]
  | p :: D, h => by
    simp only [kupd]
    split
    · rename_i e
      have h2 : ¬ p.1 = k := fun e2 => h (by rw [← e2, e])
      have h3 : ¬ k' = k := fun e => h e.symm
      simp [kget, h3, h2]
    · simp only [kget]
      split
      · rfl
      · exact kget_upd h
theorem met_not {q : Int × Int} : ∀ (l : List Rng) (D : List ((Int × Int) × Bool)), (∀ r ∈ l, keyR r ≠ q) → kget D q = none → kget (l.foldl (fun D r => kupd D (keyR r) true) D) q = none
  | [], _, _, h => h
  | r :: l, D, h1, h2 => met_not l _ (fun z hz => h1 z (by simp [hz])) (by rw [kget_upd fun e => h1 r (by simp) e.symm]; exact h2)
theorem met_new (g : GoodA now ts rs) (h1 : now ≤ to) (h2 : to ≤ 1125899906842624) (hx : (ringsV to ts rs).2.2[j]? = some r) : kget (metL ((ringsV to ts rs).2.2.take j)) (keyR r) = none := by
  refine met_not _ _ (fun z hz e => ?_) rfl
  obtain ⟨i, hi⟩ := List.mem_iff_getElem?.1 hz
  rw [List.getElem?_take] at hi
  split at hi
  · rename_i hij
    have := order_once g h1 h2 hij hi hx
    simp only [keyR, Prod.mk.injEq] at e
    exact this e
  · cases hi
theorem order_len (g : GoodA now ts rs) (h1 : now ≤ to) (h2 : to ≤ 1125899906842624) (hne : ts ≠ []) : leastV ts ≤ to ↔ 0 < (ringsV to ts rs).2.2.length := by
  constructor
  · intro h; exact List.length_pos_iff.2 (order_any g h1 h2 hne h)
  · intro h
    obtain ⟨r, hr⟩ : ∃ r, (ringsV to ts rs).2.2[0]? = some r := ⟨_, List.getElem?_eq_getElem h⟩
    exact (order_first g h1 h2 hr).2.1
theorem order_nil (g : GoodA now ts rs) (h1 : now ≤ to) (h2 : to ≤ 1125899906842624) (e : ts = []) : (ringsV to ts rs).2.2.length = 0 := by
  rw [(order_none g h1 h2).2 (by rw [e]; intro t ht; cases ht)]; rfl
/-- A ring of an alarm. -/
theorem ring_alarm (g : GoodA now ts rs) (h1 : now ≤ to) (h2 : to ≤ 1125899906842624) (hr : (ringsV to ts rs).2.2[j]? = some r) (hp : ¬ r.port = 0) : ∃ z, getA now ts rs r.vcpu = some (z, r.at_) ∧ z.port = r.port ∧ 0 ≤ r.missed ∧ (z.every = 0 → r.missed = 0) := by
  obtain ⟨t, ht, rfl⟩ := ring_at g h1 h2 hr
  have hm := ring_is g ht
  rcases hm.2.2 with ⟨hi, x, hx, hax, e⟩ | ⟨_, e⟩
  · rw [e]
    have hk : getK Tim.id ts (t.id + 1 - 1) = some t := by rw [show t.id + 1 - 1 = t.id by omega]; exact (getK_iff g.gw.rs).2 ⟨hm.1.2.2.1, rfl⟩
    exact ⟨x, getA_some (al_iff.2 g) hx hk, rfl, (miss_bnd hax (by omega)).1, fun h0 => miss_zero h0⟩
  · rw [e] at hp; exact absurd rfl hp
/-- A poll that is over. -/
theorem ring_sleep (g : GoodA now ts rs) (h1 : now ≤ to) (h2 : to ≤ 1125899906842624) (hr : (ringsV to ts rs).2.2[j]? = some r) (hp : r.port = 0) : slpO now ts rs r.vcpu = some ⟨15 + r.vcpu, r.at_⟩ ∧ r.missed = 0 ∧ slpO to (ringsV to ts rs).1 (ringsV to ts rs).2.1 r.vcpu = none := by
  obtain ⟨t, ht, rfl⟩ := ring_at g h1 h2 hr
  have hm := ring_is g ht
  rcases hm.2.2 with ⟨hi, x, hx, hax, e⟩ | ⟨hi, e⟩
  · have := alm_every hax; rw [e] at hp; simp only at hp; omega
  · rw [e]
    have hv : vcB (t.id - 16 + 1) = true := decide_eq_true (by omega)
    refine ⟨?_, rfl, order_woken g h1 h2 hm.1.2.2.1 (by omega) hi⟩
    rw [slpO_ok (al_iff.2 g) hv]
    simp only
    rw [show 15 + (t.id - 16 + 1) = t.id by omega]
    exact (getK_iff g.gw.rs).2 ⟨hm.1.2.2.1, rfl⟩
theorem ring_bnd (g : GoodA now ts rs) (h1 : now ≤ to) (h2 : to ≤ 1125899906842624) (hr : (ringsV to ts rs).2.2[j]? = some r) : now < r.at_ ∧ r.at_ ≤ to ∧ 1 ≤ r.vcpu ∧ r.vcpu ≤ 16 ∧ 0 ≤ r.port ∧ r.port ≤ 32 := by
  obtain ⟨t, ht, rfl⟩ := ring_at g h1 h2 hr
  have hm := ring_is g ht
  rw [hm.2.1]
  rcases hm.2.2 with ⟨hi, x, hx, hax, e⟩ | ⟨hi, e⟩
  · have := alm_every hax; rw [e]; simp only; omega
  · rw [e]; simp only; omega
def spV (s : Int) : Int := if s < 0 then 0 else Int.tmod s 1099511627776
theorem spV_neg {s : Int} (h : s < 0) : spV s = 0 := if_pos h
theorem spV_pos {s : Int} (h : ¬ s < 0) : spV s = Int.tmod s 1099511627776 := if_neg h
theorem spV_bnd (s : Int) : 0 ≤ spV s ∧ spV s < 1099511627776 := by
  by_cases h : s < 0
  · rw [spV_neg h]; omega
  · rw [spV_pos h, Int.tmod_eq_emod_of_nonneg (by omega)]; omega
theorem spV_if (s : Int) : Int.tmod (if (s : Int) < (0 : Int) then 0 else s) 1099511627776 = spV s := by
  unfold spV; split <;> rfl
theorem nextV_dec (h : wheelB now ts = true) : nextV now ts = .tuple #[.int .i64 (leastV ts), .bool (decide (ts ≠ []))] := by
  by_cases e : ts = []
  · subst e; rw [nextV_nil rfl]; rfl
  · rw [nextV_okd h e, decide_eq_true e]
theorem keyR_if (r : Rng) : keyR r = (r.vcpu, if (1 : Int) < (r.port : Int) then 1 else r.port) := by
  simp only [keyR]; congr 1; split <;> omega
theorem atV_is (o : Option Tim) : atV o = .tuple #[.int .i64 ((o.map Tim.due).getD 0), .bool o.isSome] := by cases o <;> rfl
def gaX (o : Option (Alm × Int)) : Alm := (o.map (·.1)).getD ⟨0, 0, 0⟩
def gaD (o : Option (Alm × Int)) : Int := (o.map (·.2)).getD 0
theorem gaV_is (o : Option (Alm × Int)) : gaV o = .tuple #[.agg #[.int .i64 (gaX o).vcpu, .int .i64 (gaX o).port, .int .i64 (gaX o).every], .int .i64 (gaD o), .bool o.isSome] := by cases o <;> rfl
end
end Go.Proofs.Ytdbamgbgnpadjaa

/-! Two whole numbers as a key. -/
namespace Go.Proofs.Ytdbamgbgnpadjaa
open Go Go.RowKit Go.ChangeShapes Go.WideShapes

/-- Two whole numbers as a map's key. -/
def twoK (p : Int × Int) : Value := .agg #[.int .i64 p.1, .int .i64 p.2]
def twoG (p : Int × Int) : Prop := (Lit.int .i64 p.1).wf = true ∧ (Lit.int .i64 p.2).wf = true
theorem two_good {a b : Int} (h1 : 0 ≤ a) (h2 : a ≤ 1000) (h3 : 0 ≤ b) (h4 : b ≤ 1000) : twoG (a, b) := by
  have e1 : IntKind.i64.min = -9223372036854775808 := by kernel_rfl
  have e2 : IntKind.i64.max = 9223372036854775807 := by kernel_rfl
  have e : ∀ n : Int, 0 ≤ n → n ≤ 1000 → (Lit.int .i64 n).wf = true := fun n hn hm => by
    simp only [Lit.wf, e1, e2, Bool.and_eq_true, decide_eq_true_eq]
    omega
  exact ⟨e a h1 h2, e b h3 h4⟩
theorem two_laid : laidOutB Try.prog = true := by kernel_rfl
theorem two_type : Try.prog.keyTypeAt 2 39 = true := by kernel_rfl
theorem two_law : WideMaps.KeyLaw Try.prog 39 := deep_law_laid two_laid (m := 2) (by omega) (of_decide_eq_true (by kernel_rfl)) two_type (by kernel_rfl)
theorem two_lits (d : Nat) (p : Int × Int) (h : twoG p) : Try.prog.keyLits (d + 1 + 1) 39 [.int .i64 p.1, .int .i64 p.2] = some [.int .i64 p.1, .int .i64 p.2] := by
  have e : ∀ n, (Lit.int .i64 n).wf = true → Try.prog.keyLits (d + 1) 3 [.int .i64 n] = some [.int .i64 n] := fun n hn => by
    unfold Program.keyLits
    simp [Try.underlying3, hn]
  have c2 : Try.prog.cellsOf 39 = 2 := by kernel_rfl
  have c1 : Try.prog.cellsOf 3 = 1 := by kernel_rfl
  unfold Program.keyLits
  simp [Try.underlying39, c2, c1, List.range_succ, e _ h.1, e _ h.2]
theorem two_key (p : Int × Int) (h : twoG p) : ∃ l, keyOf Try.prog 39 (twoK p) = some l := by
  have hs : Try.prog.types.size + 1 = (Try.prog.types.size - 1) + 1 + 1 := by
    have : 1 ≤ Try.prog.types.size := of_decide_eq_true (by kernel_rfl)
    omega
  have hf : (Try.prog.keyType 39 && (twoK p).formed Try.prog 39) = true := by kernel_rfl
  refine ⟨.string (keyBytes [.int .i64 p.1, .int .i64 p.2]), ?_⟩
  unfold keyOf
  rw [Try.underlying39]
  simp only [hf, if_true]
  rw [hs]
  have := two_lits (Try.prog.types.size - 1) p h
  simp only [twoK, Value.cells]
  rw [this]; rfl
theorem twoK_inj {a b : Int × Int} (h : twoK a = twoK b) : a = b := by
  simp only [twoK, Value.agg.injEq] at h
  have h2 := congrArg Array.toList h
  simp at h2
  exact Prod.ext h2.1 h2.2
theorem two_ok : KeyOk Try.prog 39 twoG twoK where
  chk := fun e k w hk => by obtain ⟨l, hl⟩ := two_key k hk; exact two_law.check w e hl
  eq := fun a b w ha hb => by
    obtain ⟨la, ea⟩ := two_key a ha
    obtain ⟨lb, eb⟩ := two_key b hb
    obtain ⟨r, h1, h2⟩ := run_equal_deep w (m := 2) (by omega) two_type (by kernel_rfl) ea eb
    have hr : r = decide (a = b) := by
      by_cases hab : a = b
      · have e2 : la = lb := by rw [hab] at ea; rw [ea] at eb; exact Option.some.inj eb
        rw [h2.2 e2, decide_eq_true hab]
      · rw [decide_eq_false hab]
        cases r with
        | false => rfl
        | true => exact absurd (twoK_inj (two_law.inj ea (by rw [eb, ← h2.1 rfl]))) hab
    rw [h1, hr]
  now := ⟨_, Try.underlying39, fun _ _ => rfl⟩
  stays := fun k w hk => by obtain ⟨l, hl⟩ := two_key k hk; exact two_law.stays w hl
end Go.Proofs.Ytdbamgbgnpadjaa

/-! The statement VtimerOrder, walked. -/
namespace Go.Proofs.Ytdbamgbgnpadjaa
open Go Go.RowKit

set_option maxHeartbeats 1000000 in
set_option maxRecDepth 100000 in
theorem order_law (now : Int) (p : Option Addr) (n cap : Nat) (ts : List Tim) (pa : Option Addr) (na ca : Nat) (rs : List Alm) (span : Int) (w : World)
 (hts : Sv w p ts) (hn : n = ts.length) (hcp : n ≤ cap) (hbg : cap ≤ 9223372036854775807)
 (hrs : Sv w pa rs) (hna : na = rs.length) (hca : na ≤ ca) (hbga : ca ≤ 9223372036854775807)
 : Calls Try.prog 4 #[.agg #[.int .i64 now, .slice p n cap, .slice pa na ca], .int .i64 span] w fun e w' => e = .returned (.bool true) ∧ Below w.heap.size w w' := by
 refine enter (Hs.start w) Try.func4 rfl Try.ntmps4 rfl (sq_ (ma0 [] [1] (fun γ1 => [(2, .pointer (some ⟨γ1 0, 0, none⟩))]) (fun γ1 L => bx (γ1 0) (#[.int .i64 now, .slice p n cap, .slice pa na ca]) 27 :: L) (fun γ1 => ds_ (sq_ (sq_ (ao_ (cD (.bool true) Try.call7 (fun w hw => awakes_t w) (qo0 1 [] [1, 2] [(25, .bool false)] (on_ (ds_ (f_ (at_skip (ds_ (sq_ (ao_ (qo0 1 [(0, .go (owns 0 0 3))] [1] [(26, .agg #[.int .i64 now, .slice p n cap, .slice pa na ca])] (cP (fun v L' => ∃ q_ m_ c_ Y_ q2_ m2_ c2_ X_, v = .agg #[.int .i64 now, .slice q_ m_ c_, .slice q2_ m2_ c2_] ∧ L' = List.take 1 ([bx (γ1 0) (#[.int .i64 now, .slice p n cap, .slice pa na ca]) 27]) ++ (Y_ ++ (X_ ++ List.drop 1 ([bx (γ1 0) (#[.int .i64 now, .slice p n cap, .slice pa na ca]) 27]))) ∧ SlO 88 Y_ q_ m_ c_ (shT ts) ∧ SlO 47 X_ q2_ m2_ c2_ (shR rs)) Try.call8 (fun w hw => (short_t now p n cap ts pa na ca rs w (hts.kept hw.below) hn (by omega) (by omega) (hrs.kept hw.below) hna (by omega) (by omega)).mono fun e w' ⟨q_, m_, c_, Y_, q2_, m2_, c2_, X_, he, h1, h2, hb, hY⟩ => ⟨_, _, he, ⟨q_, m_, c_, Y_, q2_, m2_, c2_, X_, rfl, rfl, h1, h2⟩, hw.joinT hb hY 1⟩) ?_)))))))))))))))))
 rintro v5 L5 ⟨q5, m5, c5, Y5, p5, k5, d5, Yx5, rfl, rfl, hO5, hP5⟩
 have hm5 := hO5.len
 have hn5 := hP5.len
 have hsh5 := shT_len (ts := ts)
 have hsr5 := shR_len (rs := rs)
 refine mo0 2 [(3, .go (owns 0 0 3))] [1] (fun γ6 => [(5, .pointer (some ⟨γ6 0, 0, none⟩))]) (fun γ6 L => bx (γ6 0) (#[.int .i64 now, .slice q5 m5 c5, .slice p5 k5 d5]) 27 :: L) (fun γ6 => on_ (ds_ (sq_ (sq_ (ao_ (qo0 1 [(0, .go (owns 0 0 3))] [1, 5] [(28, .agg #[.int .i64 now, .slice q5 m5 c5, .slice p5 k5 d5])] ?_))))))
 rcases q8 : alB now ((shT ts)) ((shR rs)) with _ | _
 ·
  refine cD (.int .i64 280) Try.call9 (fun w hw => by have := acheck_t now q5 m5 c5 ((shT ts)) p5 k5 d5 ((shR rs)) w (hO5.atN (A := [_, _]) hw) hO5.len (by omega) (hP5.atN (A := (_ :: _ :: Y5)) hw) hP5.len (by omega); rw [q8] at this; exact this) (qo0 1 [] [1, 5] [(30, .bool true)] (on_ (ds_ (t_ (sq_ (qa0 [] [] [(4, .bool true)] (ds_ (rt ([]) (.bool true) ?_))))))))
  exact fun w' hw => ⟨rfl, hw.below⟩
 ·
  refine cD (.int .i64 0) Try.call9 (fun w hw => by have := acheck_t now q5 m5 c5 ((shT ts)) p5 k5 d5 ((shR rs)) w (hO5.atN (A := [_, _]) hw) hO5.len (by omega) (hP5.atN (A := (_ :: _ :: Y5)) hw) hP5.len (by omega); rw [q8] at this; exact this) (qo0 1 [] [1, 5] [(30, .bool false)] (on_ (ds_ (f_ (at_skip (ds_ (sq_ ?_)))))))
  have hgA := al_iff.1 q8
  have hn0 := hgA.gw.n0
  have hn1 := hgA.gw.n1
  have hl0 := hgA.gw.len
  have hl0r := hgA.rl
  have hsb := spV_bnd span
  refine qa [(2, .go (owns 0 0 1)), (5, .is [] (.int .i64 ((spV span)))), (6, .fit)] [5] [(6, .int .i64 (now + ((spV span))))] ([Value.int .i64 (Int.tmod ((if (span : Int) < (0 : Int) then 0 else span)) 1099511627776) = .int .i64 ((spV span))] ++ ([Fit .i64 (now + ((spV span)))])) (alA (al1 (by rw [spV_if])) (al1 (fit64 (by omega) (by omega)))) (ds_ (sq_ ?_))
  obtain ⟨to, hto⟩ : ∃ to, to = now + (spV span) := ⟨_, rfl⟩
  rw [← hto]
  refine ao_ (qo0 1 [(0, .go (owns 0 0 3))] [5, 6] [(39, .agg #[.int .i64 now, .slice q5 m5 c5, .slice p5 k5 d5])] (cD (.tuple #[.int .i64 (leastV (shT ts)), .bool (decide ((shT ts) ≠ []))]) Try.call13 (fun w hw => by have := anext_t now q5 m5 c5 ((shT ts)) p5 k5 d5 ((shR rs)) w (hO5.atN (A := [_, _]) hw) hO5.len (by omega) (hP5.atN (A := (_ :: _ :: Y5)) hw) hP5.len (by omega); rw [nextAV_ok q8, nextV_dec (al_iff.1 q8).wh] at this; exact this) (qo0 5 [] [5, 6] [(7, .int .i64 (leastV (shT ts))), (8, .bool (decide ((shT ts) ≠ [])))] (on_ (ds_ (sq_ (ao_ (qo0 2 [(0, .go (owns 0 0 3))] [5, 6, 7, 8] [(44, .agg #[.int .i64 now, .slice q5 m5 c5, .slice p5 k5 d5]), (45, .int .i64 to)] ?_))))))))
  rcases q16 : decide (now ≤ to ∧ to ≤ 1125899906842624) with _ | _
  ·
   refine cP (fun v L' => ∃ q_ m_ c_ Y_ q2_ m2_ c2_ X_ q3_ m3_ c3_ Z_, v = .tuple #[.agg #[.int .i64 0, .slice q_ m_ c_, .slice q2_ m2_ c2_], .slice q3_ m3_ c3_, .int .i64 2] ∧ L' = List.take 2 (bx (γ6 0) (#[.int .i64 now, .slice q5 m5 c5, .slice p5 k5 d5]) 27 :: bx (γ1 0) (#[.int .i64 now, .slice p n cap, .slice pa na ca]) 27 :: (Y5 ++ (Yx5 ++ []))) ++ (Y_ ++ (X_ ++ (Z_ ++ List.drop 2 (bx (γ6 0) (#[.int .i64 now, .slice q5 m5 c5, .slice p5 k5 d5]) 27 :: bx (γ1 0) (#[.int .i64 now, .slice p n cap, .slice pa na ca]) 27 :: (Y5 ++ (Yx5 ++ [])))))) ∧ SlO 88 Y_ q_ m_ c_ ([] : List Tim) ∧ SlO 47 X_ q2_ m2_ c2_ ([] : List Alm) ∧ SlO 44 Z_ q3_ m3_ c3_ ([] : List Rng)) Try.call10 (fun w hw => by have := apass_t now q5 m5 c5 ((shT ts)) p5 k5 d5 ((shR rs)) to w (hO5.atN (A := [_, _]) hw) hO5.len (by omega) (hP5.atN (A := (_ :: _ :: Y5)) hw) hP5.len (by omega); rw [passA_arg q8 (of_decide_eq_false q16), passR_arg (of_decide_eq_false q16)] at this; exact this.mono fun e w' ⟨q_, m_, c_, Y_, q2_, m2_, c2_, X_, q3_, m3_, c3_, Z_, he, h1, h2, h3, hb, hY⟩ => ⟨_, _, he, ⟨q_, m_, c_, Y_, q2_, m2_, c2_, X_, q3_, m3_, c3_, Z_, rfl, rfl, h1, h2, h3⟩, hw.joinZ hb hY 2⟩) ?_
   rintro v17 L17 ⟨q17, m17, c17, Y17, p17, k17, d17, Yx17, pz17, kz17, dz17, Yz17, rfl, rfl, hO17, hP17, hZ17⟩
   have hm17 := hO17.len
   have hn17 := hP17.len
   have hz17 := hZ17.len
   have hsp := of_decide_eq_false q16
   simp only [List.length_cons, List.length_nil] at hm17
   simp only [List.length_cons, List.length_nil] at hn17
   simp only [List.length_cons, List.length_nil] at hz17
   refine mo0 8 [(8, .go (owns 0 0 3))] [5, 6, 7, 8] (fun γ18 => [(9, .pointer (some ⟨γ18 0, 0, none⟩)), (10, .slice pz17 kz17 dz17), (11, .int .i64 2)]) (fun γ18 L => bx (γ18 0) (#[.int .i64 0, .slice q17 m17 c17, .slice p17 k17 d17]) 27 :: L) (fun γ18 => on_ (ds_ (sq_ (sq_ (qa0 [] [5, 6, 7, 8, 9, 10, 11] [(51, .bool true)] (ds_ (t_ (sq_ ?_))))))))
   by_cases q21 : (to : Int) > (1125899906842624 : Int)
   ·
    by_cases q23 : ((kz17 : Nat) : Int) = (0 : Int)
    ·
     refine qa [(4, .yes), (9, .yes)] [] [(4, .bool true)] ([(to : Int) > (1125899906842624 : Int)] ++ ([((kz17 : Nat) : Int) = (0 : Int)])) (alA (al1 q21) (al1 q23)) (ds_ (rt ([]) (.bool true) ?_))
     exact fun w' hw => ⟨rfl, hw.below⟩
    ·
     refine qa [(4, .yes), (9, .no)] [] [(4, .bool false)] ([(to : Int) > (1125899906842624 : Int)] ++ ([¬ (((kz17 : Nat) : Int) = (0 : Int))])) (alA (al1 q21) (al1 q23)) (ds_ (rt ([]) (.bool false) ?_))
     exfalso
     first | omega | (have hxx := ha4 (by omega); omega)
   ·
    refine qa [(4, .no)] [] [(4, .bool false)] ([¬ ((to : Int) > (1125899906842624 : Int))]) (al1 q21) (ds_ (rt ([]) (.bool false) ?_))
    exfalso
    first | omega | (have hxx := ha4 (by omega); omega)
  ·
   refine cP (fun v L' => ∃ q_ m_ c_ Y_ q2_ m2_ c2_ X_ q3_ m3_ c3_ Z_, v = .tuple #[.agg #[.int .i64 to, .slice q_ m_ c_, .slice q2_ m2_ c2_], .slice q3_ m3_ c3_, .int .i64 0] ∧ L' = List.take 2 (bx (γ6 0) (#[.int .i64 now, .slice q5 m5 c5, .slice p5 k5 d5]) 27 :: bx (γ1 0) (#[.int .i64 now, .slice p n cap, .slice pa na ca]) 27 :: (Y5 ++ (Yx5 ++ []))) ++ (Y_ ++ (X_ ++ (Z_ ++ List.drop 2 (bx (γ6 0) (#[.int .i64 now, .slice q5 m5 c5, .slice p5 k5 d5]) 27 :: bx (γ1 0) (#[.int .i64 now, .slice p n cap, .slice pa na ca]) 27 :: (Y5 ++ (Yx5 ++ [])))))) ∧ SlO 88 Y_ q_ m_ c_ ((ringsV to (shT ts) (shR rs)).1) ∧ SlO 47 X_ q2_ m2_ c2_ ((ringsV to (shT ts) (shR rs)).2.1) ∧ SlO 44 Z_ q3_ m3_ c3_ ((ringsV to (shT ts) (shR rs)).2.2)) Try.call10 (fun w hw => by have := apass_t now q5 m5 c5 ((shT ts)) p5 k5 d5 ((shR rs)) to w (hO5.atN (A := [_, _]) hw) hO5.len (by omega) (hP5.atN (A := (_ :: _ :: Y5)) hw) hP5.len (by omega); rw [passA_ok q8 (of_decide_eq_true q16), passR_ok q8 (of_decide_eq_true q16)] at this; exact this.mono fun e w' ⟨q_, m_, c_, Y_, q2_, m2_, c2_, X_, q3_, m3_, c3_, Z_, he, h1, h2, h3, hb, hY⟩ => ⟨_, _, he, ⟨q_, m_, c_, Y_, q2_, m2_, c2_, X_, q3_, m3_, c3_, Z_, rfl, rfl, h1, h2, h3⟩, hw.joinZ hb hY 2⟩) ?_
   rintro v27 L27 ⟨q27, m27, c27, Y27, p27, k27, d27, Yx27, pz27, kz27, dz27, Yz27, rfl, rfl, hO27, hP27, hZ27⟩
   have hm27 := hO27.len
   have hn27 := hP27.len
   have hz27 := hZ27.len
   have hsp := of_decide_eq_true q16
   have hgb := al_iff.2 (after_good hgA hsp.1 hsp.2)
   have hrl := rings_len hgA hsp.1 hsp.2
   have hlb := (al_iff.1 hgb).gw.len
   have hlbr := (al_iff.1 hgb).rl
   refine mo0 8 [(8, .go (owns 0 0 3))] [5, 6, 7, 8] (fun γ28 => [(9, .pointer (some ⟨γ28 0, 0, none⟩)), (10, .slice pz27 kz27 dz27), (11, .int .i64 0)]) (fun γ28 L => bx (γ28 0) (#[.int .i64 to, .slice q27 m27 c27, .slice p27 k27 d27]) 27 :: L) (fun γ28 => on_ (ds_ (sq_ (sq_ (qa0 [] [5, 6, 7, 8, 9, 10, 11] [(51, .bool false)] (ds_ (f_ (at_skip (ds_ (at_cutS [(5, .pointer (some ⟨γ6 0, 0, none⟩)), (6, .int .i64 to), (9, .pointer (some ⟨γ28 0, 0, none⟩)), (10, .slice pz27 kz27 dz27)] (fun hm30 => ?_) ?_))))))))))
   ·
    refine sq_ ?_
    rcases q31 : decide ((shT ts) ≠ []) with _ | _
    ·
     have hol := order_nil (to := to) hgA hsp.1 hsp.2 (Decidable.not_not.1 (of_decide_eq_false q31))
     by_cases q33 : ((kz27 : Nat) : Int) > (0 : Int)
     ·
      refine ao_ (qo 14 [(2, .yes), (9, .eqs true)] [5, 6, 7, 9, 10] [(73, .bool true), (76, undef)] ([((kz27 : Nat) : Int) > (0 : Int)] ++ ([EqRun Try.prog .neq 4 (.tmp 65) (.tmp 71) (.bool true) (.bool false) true])) (alA (al1 q33) (al1 (bool_ne true false))) (qo0 14 [] [5, 6, 9, 10] [(86, .bool true), (89, undef), (90, undef)] (qo0 2 [] [5, 6, 9, 10] [(92, .bool true)] (on_ (ds_ (t_ (sq_ (qa0 [] [] [(4, .bool false)] (ds_ (rt ([]) (.bool false) ?_))))))))))
      exfalso
      first | omega | (have hxx := ha4 (by omega); omega)
     ·
      refine ao_ (qo 14 [(2, .no), (9, .eqs false), (13, .no)] [5, 6, 7, 9, 10] [(73, .bool false), (76, .bool false)] ([¬ (((kz27 : Nat) : Int) > (0 : Int))] ++ ([EqRun Try.prog .neq 4 (.tmp 65) (.tmp 71) (.bool false) (.bool false) false] ++ ([¬ (((kz27 : Nat) : Int) > (0 : Int))]))) (alA (al1 q33) (alA (al1 (bool_ne false false)) (al1 q33))) (qo0 14 [(26, .go (owns 0 0 1))] [5, 6, 9, 10] [(86, .bool false), (89, .int .i64 to), (90, .int .i64 to)] (qo 2 [(28, .no)] [5, 6, 9, 10] [(92, .bool false)] ([¬ ((to : Int) ≠ (to : Int))]) (al1 ((fun h => h rfl))) (on_ (ds_ (f_ (at_skip ?_)))))))
      exact hm30.weakS [5, 6, 9, 10] (by kernel_rfl)
    ·
     have hol := order_len hgA hsp.1 hsp.2 (of_decide_eq_true q31)
     by_cases q42 : ((kz27 : Nat) : Int) > (0 : Int)
     ·
      by_cases q44 : (leastV (shT ts) : Int) ≤ (to : Int)
      ·
       refine ao_ (qo 14 [(2, .yes), (7, .yes), (9, .eqs false), (13, .yes)] [5, 6, 7, 9, 10] [(73, .bool false), (76, .bool true)] ([((kz27 : Nat) : Int) > (0 : Int)] ++ ([(leastV (shT ts) : Int) ≤ (to : Int)] ++ ([EqRun Try.prog .neq 4 (.tmp 65) (.tmp 71) (.bool true) (.bool true) false] ++ ([((kz27 : Nat) : Int) > (0 : Int)])))) (alA (al1 q42) (alA (al1 q44) (alA (al1 (bool_ne true true)) (al1 q42)))) (Ops.pick [[bx (γ28 0) (#[.int .i64 to, .slice q27 m27 c27, .slice p27 k27 d27]) 27], [bx (γ6 0) (#[.int .i64 now, .slice q5 m5 c5, .slice p5 k5 d5]) 27], [bx (γ1 0) (#[.int .i64 now, .slice p n cap, .slice pa na ca]) 27], Y27, Yx27, Yz27, Y5, Yx5] [0, 1, 2, 5, 3, 4, 6, 7] [] (bx (γ28 0) (#[.int .i64 to, .slice q27 m27 c27, .slice p27 k27 d27]) 27 :: bx (γ6 0) (#[.int .i64 now, .slice q5 m5 c5, .slice p5 k5 d5]) 27 :: bx (γ1 0) (#[.int .i64 now, .slice p n cap, .slice pa na ca]) 27 :: (Yz27 ++ (Y27 ++ (Yx27 ++ (Y5 ++ (Yx5 ++ [])))))) (by kernel_rfl) rfl rfl ?_))
       have hln47 := hZ27.len
       obtain ⟨g47, cs47, rfl, rfl, hOw47⟩ := hZ27.rowOf (i := 0) (by omega)
       obtain ⟨x49, hx49⟩ := get_some (l := ((ringsV to (shT ts) (shR rs)).2.2)) (m := 0) (by omega)
       by_cases q51 : (x49.at_ : Int) ≠ (leastV (shT ts) : Int)
       ·
        refine qo 14 [(16, .at g47 0 0), (18, .go (ownps 3 (0 + 0 * 4 + 2) [.int .i64 x49.at_])), (20, .yes)] [5, 6, 9, 10] [(86, .bool true), (89, undef), (90, undef)] ([(some ⟨g47, 0, none⟩ : Option Addr) = some ⟨g47, 0, none⟩, 0 = ((0 : Nat) : Int), 0 < kz27] ++ (acellsP cs47 (0 + 0 * 4 + 2) [.int .i64 x49.at_] ++ ([(x49.at_ : Int) ≠ (leastV (shT ts) : Int)]))) (alA (al2 rfl (al2 rfl (al1 (by omega)))) (alA (rda_part ((hOw47.rdx hZ27.len hx49)) 2 _ rfl) (al1 q51))) (qo0 2 [] [5, 6, 9, 10] [(92, .bool true)] (on_ (ds_ (t_ (sq_ (qa0 [] [] [(4, .bool false)] (ds_ (rt ([]) (.bool false) ?_))))))))
        exfalso
        have hof := order_first hgA hsp.1 hsp.2 hx49
        first | omega | (have hxx := ha4 (by omega); omega)
       ·
        refine qo 14 [(16, .at g47 0 0), (18, .go (ownps 3 (0 + 0 * 4 + 2) [.int .i64 x49.at_])), (20, .no), (26, .go (owns 0 0 1))] [5, 6, 9, 10] [(86, .bool false), (89, .int .i64 to), (90, .int .i64 to)] ([(some ⟨g47, 0, none⟩ : Option Addr) = some ⟨g47, 0, none⟩, 0 = ((0 : Nat) : Int), 0 < kz27] ++ (acellsP cs47 (0 + 0 * 4 + 2) [.int .i64 x49.at_] ++ ([¬ ((x49.at_ : Int) ≠ (leastV (shT ts) : Int))]))) (alA (al2 rfl (al2 rfl (al1 (by omega)))) (alA (rda_part ((hOw47.rdx hZ27.len hx49)) 2 _ rfl) (al1 q51))) (qo 2 [(28, .no)] [5, 6, 9, 10] [(92, .bool false)] ([¬ ((to : Int) ≠ (to : Int))]) (al1 ((fun h => h rfl))) (on_ (ds_ (f_ (at_skip (Done.pick [[bx (γ28 0) (#[.int .i64 to, .slice q27 m27 c27, .slice p27 k27 d27]) 27], [bx (γ6 0) (#[.int .i64 now, .slice q5 m5 c5, .slice p5 k5 d5]) 27], [bx (γ1 0) (#[.int .i64 now, .slice p n cap, .slice pa na ca]) 27], [bx g47 cs47 44], Y27, Yx27, Y5, Yx5] [0, 1, 2, 4, 5, 3, 6, 7] [] (bx (γ28 0) (#[.int .i64 to, .slice q27 m27 c27, .slice p27 k27 d27]) 27 :: bx (γ6 0) (#[.int .i64 now, .slice q5 m5 c5, .slice p5 k5 d5]) 27 :: bx (γ1 0) (#[.int .i64 now, .slice p n cap, .slice pa na ca]) 27 :: (Y27 ++ (Yx27 ++ ([bx g47 cs47 44] ++ (Y5 ++ (Yx5 ++ [])))))) (by kernel_rfl) rfl rfl ?_))))))
        exact hm30.weakS [5, 6, 9, 10] (by kernel_rfl)
      ·
       refine ao_ (qo 14 [(2, .yes), (7, .no), (9, .eqs true)] [5, 6, 7, 9, 10] [(73, .bool true), (76, undef)] ([((kz27 : Nat) : Int) > (0 : Int)] ++ ([¬ ((leastV (shT ts) : Int) ≤ (to : Int))] ++ ([EqRun Try.prog .neq 4 (.tmp 65) (.tmp 71) (.bool true) (.bool false) true]))) (alA (al1 q42) (alA (al1 q44) (al1 (bool_ne true false)))) (qo0 14 [] [5, 6, 9, 10] [(86, .bool true), (89, undef), (90, undef)] (qo0 2 [] [5, 6, 9, 10] [(92, .bool true)] (on_ (ds_ (t_ (sq_ (qa0 [] [] [(4, .bool false)] (ds_ (rt ([]) (.bool false) ?_))))))))))
       exfalso
       first | omega | (have hxx := ha4 (by omega); omega)
     ·
      by_cases q62 : (leastV (shT ts) : Int) ≤ (to : Int)
      ·
       refine ao_ (qo 14 [(2, .no), (7, .yes), (9, .eqs true)] [5, 6, 7, 9, 10] [(73, .bool true), (76, undef)] ([¬ (((kz27 : Nat) : Int) > (0 : Int))] ++ ([(leastV (shT ts) : Int) ≤ (to : Int)] ++ ([EqRun Try.prog .neq 4 (.tmp 65) (.tmp 71) (.bool false) (.bool true) true]))) (alA (al1 q42) (alA (al1 q62) (al1 (bool_ne false true)))) (qo0 14 [] [5, 6, 9, 10] [(86, .bool true), (89, undef), (90, undef)] (qo0 2 [] [5, 6, 9, 10] [(92, .bool true)] (on_ (ds_ (t_ (sq_ (qa0 [] [] [(4, .bool false)] (ds_ (rt ([]) (.bool false) ?_))))))))))
       exfalso
       first | omega | (have hxx := ha4 (by omega); omega)
      ·
       refine ao_ (qo 14 [(2, .no), (7, .no), (9, .eqs false), (13, .no)] [5, 6, 7, 9, 10] [(73, .bool false), (76, .bool false)] ([¬ (((kz27 : Nat) : Int) > (0 : Int))] ++ ([¬ ((leastV (shT ts) : Int) ≤ (to : Int))] ++ ([EqRun Try.prog .neq 4 (.tmp 65) (.tmp 71) (.bool false) (.bool false) false] ++ ([¬ (((kz27 : Nat) : Int) > (0 : Int))])))) (alA (al1 q42) (alA (al1 q62) (alA (al1 (bool_ne false false)) (al1 q42)))) (qo0 14 [(26, .go (owns 0 0 1))] [5, 6, 9, 10] [(86, .bool false), (89, .int .i64 to), (90, .int .i64 to)] (qo 2 [(28, .no)] [5, 6, 9, 10] [(92, .bool false)] ([¬ ((to : Int) ≠ (to : Int))]) (al1 ((fun h => h rfl))) (on_ (ds_ (f_ (at_skip ?_)))))))
       exact hm30.weakS [5, 6, 9, 10] (by kernel_rfl)
   ·
    refine sq_ (ma0 [] [5, 6, 9, 10] (fun γ70 => [(12, .map (some (γ70 0)))]) (fun γ70 L => (γ70 0, .map #[] 0) :: L) (fun γ70 => ds_ (sq_ (sq_ (qa0 [] [5, 6, 9, 10, 12] [(94, .slice pz27 kz27 dz27), (95, .int .i64 ((kz27 : Nat))), (96, .int .i64 0)] (ds_ (at_block (at_loop (α := Nat × Array MapEntry × Nat) [5, 6, 9, 10, 12, 94, 95, 96] (fun ⟨j, es, ck⟩ => [(5, .pointer (some ⟨γ6 0, 0, none⟩)), (6, .int .i64 to), (9, .pointer (some ⟨γ28 0, 0, none⟩)), (10, .slice pz27 kz27 dz27), (12, .map (some (γ70 0))), (94, .slice pz27 kz27 dz27), (95, .int .i64 ((kz27 : Nat))), (96, .int .i64 ((j : Nat)))]) (fun ⟨j, es, ck⟩ => (γ70 0, .map es ck) :: bx (γ28 0) (#[.int .i64 to, .slice q27 m27 c27, .slice p27 k27 d27]) 27 :: bx (γ6 0) (#[.int .i64 now, .slice q5 m5 c5, .slice p5 k5 d5]) 27 :: bx (γ1 0) (#[.int .i64 now, .slice p n cap, .slice pa na ca]) 27 :: (Y27 ++ (Yx27 ++ (Yz27 ++ (Y5 ++ (Yx5 ++ [])))))) (fun ⟨j, es, ck⟩ => j ≤ (kz27 : Nat) ∧ MapKs twoG twoK Value.bool es (metL (((ringsV to (shT ts) (shR rs)).2.2).take j))) (fun ⟨j, es, ck⟩ => (kz27 : Nat) - j) (0, #[], 0) (by kernel_rfl) rfl ⟨Nat.zero_le _, MapKs.nil⟩ ?_))))))))
    rintro ⟨j, es, ck⟩
    rintro ⟨hj, hM⟩
    refine sq_ ?_
    by_cases q73 : ((j : Nat) : Int) < ((kz27 : Nat) : Int)
    ·
     refine qa [(0, .yes)] [5, 6, 9, 10, 12, 94, 95, 96] [(97, .bool true)] ([((j : Nat) : Int) < ((kz27 : Nat) : Int)]) (al1 q73) (ds_ (sq_ (t_ (at_skip (ds_ (sq_ (at_block (sq_ (At.pick [[(γ70 0, .map es ck)], [bx (γ28 0) (#[.int .i64 to, .slice q27 m27 c27, .slice p27 k27 d27]) 27], [bx (γ6 0) (#[.int .i64 now, .slice q5 m5 c5, .slice p5 k5 d5]) 27], [bx (γ1 0) (#[.int .i64 now, .slice p n cap, .slice pa na ca]) 27], Y27, Yx27, Yz27, Y5, Yx5] [0, 1, 2, 3, 6, 4, 5, 7, 8] [] ((γ70 0, .map es ck) :: bx (γ28 0) (#[.int .i64 to, .slice q27 m27 c27, .slice p27 k27 d27]) 27 :: bx (γ6 0) (#[.int .i64 now, .slice q5 m5 c5, .slice p5 k5 d5]) 27 :: bx (γ1 0) (#[.int .i64 now, .slice p n cap, .slice pa na ca]) 27 :: (Yz27 ++ (Y27 ++ (Yx27 ++ (Y5 ++ (Yx5 ++ [])))))) (by kernel_rfl) rfl rfl ?_)))))))))
     have hln76 := hZ27.len
     obtain ⟨g76, cs76, rfl, rfl, hOw76⟩ := hZ27.rowOf (i := j) (by omega)
     obtain ⟨x78, hx78⟩ := get_some (l := ((ringsV to (shT ts) (shR rs)).2.2)) (m := j) (by omega)
     refine ma [(1, .at g76 0 j), (2, .go (ownps 4 (0 + j * 4) [.int .i64 x78.vcpu, .int .i64 x78.port, .int .i64 x78.at_, .int .i64 x78.missed])), (5, .go (owns 0 0 4))] [5, 6, 9, 10, 12, 94, 95, 96] (fun γ79 => [(13, .int .i64 ((j : Nat))), (14, .pointer (some ⟨γ79 0, 0, none⟩))]) (fun γ79 L => bx (γ79 0) (#[.int .i64 x78.vcpu, .int .i64 x78.port, .int .i64 x78.at_, .int .i64 x78.missed]) 44 :: L) (fun γ79 => [(some ⟨g76, 0, none⟩ : Option Addr) = some ⟨g76, 0, none⟩, ((j : Nat)) = ((j : Nat) : Int), j < kz27] ++ (acellsP cs76 (0 + j * 4) [.int .i64 x78.vcpu, .int .i64 x78.port, .int .i64 x78.at_, .int .i64 x78.missed])) (fun γ79 => (alA (al2 rfl (al2 rfl (al1 (by omega)))) (rda_pre ((hOw76.rdx hZ27.len hx78)) _ rfl))) (fun γ79 => ds_ (at_cutS [(5, .pointer (some ⟨γ6 0, 0, none⟩)), (6, .int .i64 to), (9, .pointer (some ⟨γ28 0, 0, none⟩)), (10, .slice (some ⟨g76, 0, none⟩) kz27 dz27), (12, .map (some (γ70 0))), (14, .pointer (some ⟨γ79 0, 0, none⟩)), (94, .slice (some ⟨g76, 0, none⟩) kz27 dz27), (95, .int .i64 ((kz27 : Nat))), (96, .int .i64 ((j : Nat)))] (fun hm80 => ?_) ?_))
     ·
      refine sq_ ?_
      have hrb := ring_bnd hgA hsp.1 hsp.2 hx78
      have hmn := met_new hgA hsp.1 hsp.2 hx78
      by_cases q81 : ((j : Nat) : Int) > (0 : Int)
      ·
       have hrb := ring_bnd hgA hsp.1 hsp.2 hx78
       have hmn := met_new hgA hsp.1 hsp.2 hx78
       obtain ⟨x82, hx82⟩ := get_some (l := ((ringsV to (shT ts) (shR rs)).2.2)) (m := j - 1) (by omega)
       have hle := order_le hgA hsp.1 hsp.2 (show j - 1 < j by omega) hx82 hx78
       rw [keyR_if] at hmn
       have hmf : (kget (metL (((ringsV to (shT ts) (shR rs)).2.2).take j)) (x78.vcpu, (if (1 : Int) < (x78.port : Int) then 1 else x78.port))).getD false = false := by rw [hmn]; rfl
       refine at_calmTo (f := 2) 35 rfl (by kernel_rfl) (by kernel_rfl) (by kernel_rfl) (by kernel_rfl) (by kernel_rfl) (by kernel_rfl) ?_
       refine cm 14 [(1, .yes), (5, .fit), (6, .at g76 0 (j - 1)), (8, .go (ownps 5 (0 + (j - 1) * 4 + 2) [.int .i64 x82.at_])), (10, .go (owns 0 2 1)), (11, .no)] [5, 6, 9, 10, 12, 14, 94, 95, 96] [(114, .bool false)] ([((j : Nat) : Int) > (0 : Int)] ++ ([Fit .i64 (((j : Nat)) - 1)] ++ ([(some ⟨g76, 0, none⟩ : Option Addr) = some ⟨g76, 0, none⟩, (((j : Nat)) - 1) = ((j - 1 : Nat) : Int), j - 1 < kz27] ++ (acellsP cs76 (0 + (j - 1) * 4 + 2) [.int .i64 x82.at_] ++ ([¬ ((x82.at_ : Int) > (x78.at_ : Int))]))))) (by kernel_rfl) rfl (alA (al1 q81) (alA (al1 (fit64 (by omega) (by omega))) (alA (al2 rfl (al2 (by omega) (al1 (by omega)))) (alA (rda_part ((hOw76.rdx hZ27.len hx82)) 2 _ rfl) (al1 ((by omega))))))) ?_
       refine cm 14 [(15, .go (owns 0 2 1)), (17, .no), (21, .go (owns 0 2 1)), (24, .go (owns 3 0 1)), (25, .no)] [5, 6, 9, 10, 12, 14, 94, 95, 96] [(128, .bool false)] ([¬ ((x78.at_ : Int) > (to : Int))] ++ ([¬ ((x78.at_ : Int) ≤ (now : Int))])) (by kernel_rfl) rfl (alA (al1 ((by omega))) (al1 ((by omega)))) ?_
       refine cm 7 [(30, .go (owns 0 0 1)), (32, .go (owns 0 1 1))] [5, 6, 9, 10, 12, 14, 94, 95, 96, 128] [(129, .map (some (γ70 0))), (135, .agg #[.int .i64 x78.vcpu, .int .i64 ((if (1 : Int) < (x78.port : Int) then 1 else x78.port))])] ([]) (by kernel_rfl) rfl al0 ?_
       refine calm_nil' ?_
       refine done_pre (li' := #[true, true, true, true, true, true, true, true, true, true, true, true, true, true, true, true, true, true, true, true, true, true, true, true, true, true, true, true, true, true, true, true, true, true, true, false, false]) (by kernel_rfl) ?_
       refine any_cutX (V := Unit) (fun _ => True) 0 #[true, true, true, true, true, true, true, true, true, true, true, true, true, true, true, true, true, true, true, true, true, true, true, true, true, true, true, true, true, true, true, true, true, true, true, true, true] (fun _ => [(5, .pointer (some ⟨γ6 0, 0, none⟩)), (6, .int .i64 to), (9, .pointer (some ⟨γ28 0, 0, none⟩)), (10, .slice (some ⟨g76, 0, none⟩) kz27 dz27), (12, .map (some (γ70 0))), (14, .pointer (some ⟨γ79 0, 0, none⟩)), (94, .slice (some ⟨g76, 0, none⟩) kz27 dz27), (95, .int .i64 ((kz27 : Nat))), (96, .int .i64 ((j : Nat))), (137, .bool false)]) (fun _ => bx (γ79 0) (#[.int .i64 x78.vcpu, .int .i64 x78.port, .int .i64 x78.at_, .int .i64 x78.missed]) 44 :: (γ70 0, .map es ck) :: bx (γ28 0) (#[.int .i64 to, .slice q27 m27 c27, .slice p27 k27 d27]) 27 :: bx (γ6 0) (#[.int .i64 now, .slice q5 m5 c5, .slice p5 k5 d5]) 27 :: bx (γ1 0) (#[.int .i64 now, .slice p n cap, .slice pa na ca]) 27 :: bx g76 cs76 44 :: (Y27 ++ (Yx27 ++ (Y5 ++ (Yx5 ++ []))))) ?_ (fun hmx1 => ?_)
       rotate_left
       ·
        refine a1 35 rfl ?_
        refine ops_lookupK (enc := Value.bool) (kk := (x78.vcpu, (if (1 : Int) < (x78.port : Int) then 1 else x78.port))) 1 (Value.bool false) (.bool false) two_ok (two_good (by omega) (by omega) (by omega) (by omega)) rfl (by kernel_rfl) (by kernel_rfl) (by kernel_rfl) (by kernel_rfl) (⟨4, by kernel_rfl, by kernel_rfl⟩ : mapK Try.prog 45 39 (Value.bool false)) rfl hM ((map_getD _ _ _).trans (congrArg Value.bool hmf)) ?_
        refine od_ ?_
        refine tk (m := 0) [36] [] [5, 6, 9, 10, 12, 14, 94, 95, 96] [(137, .bool false)] ([]) #[true, true, true, true, true, true, true, true, true, true, true, true, true, true, true, true, true, true, true, true, true, true, true, true, true, true, true, true, true, true, true, true, true, true, true, true, true] al0 ?_
        exact wk (hmx1 () trivial) [5, 6, 9, 10, 12, 14, 94, 95, 96, 137] [[_], [_], [_], [_], [_], [_], _, _, _, _] [0, 1, 2, 3, 4, 5, 6, 7, 8, 9] rfl rfl
       rintro _ _
       refine any_nil (by kernel_rfl) ?_
       refine ds_ (f_ (at_skip ?_))
       exact hm80.weakS [5, 6, 9, 10, 12, 14, 94, 95, 96] (by kernel_rfl)
      ·
       have hrb := ring_bnd hgA hsp.1 hsp.2 hx78
       have hmn := met_new hgA hsp.1 hsp.2 hx78
       rw [keyR_if] at hmn
       have hmf : (kget (metL (((ringsV to (shT ts) (shR rs)).2.2).take j)) (x78.vcpu, (if (1 : Int) < (x78.port : Int) then 1 else x78.port))).getD false = false := by rw [hmn]; rfl
       refine at_calmTo (f := 2) 35 rfl (by kernel_rfl) (by kernel_rfl) (by kernel_rfl) (by kernel_rfl) (by kernel_rfl) (by kernel_rfl) ?_
       refine cm 14 [(1, .no)] [5, 6, 9, 10, 12, 14, 94, 95, 96] [(114, .bool false)] ([¬ (((j : Nat) : Int) > (0 : Int))]) (by kernel_rfl) rfl (al1 q81) ?_
       refine cm 14 [(15, .go (owns 0 2 1)), (17, .no), (21, .go (owns 0 2 1)), (24, .go (owns 3 0 1)), (25, .no)] [5, 6, 9, 10, 12, 14, 94, 95, 96] [(128, .bool false)] ([¬ ((x78.at_ : Int) > (to : Int))] ++ ([¬ ((x78.at_ : Int) ≤ (now : Int))])) (by kernel_rfl) rfl (alA (al1 ((by omega))) (al1 ((by omega)))) ?_
       refine cm 7 [(30, .go (owns 0 0 1)), (32, .go (owns 0 1 1))] [5, 6, 9, 10, 12, 14, 94, 95, 96, 128] [(129, .map (some (γ70 0))), (135, .agg #[.int .i64 x78.vcpu, .int .i64 ((if (1 : Int) < (x78.port : Int) then 1 else x78.port))])] ([]) (by kernel_rfl) rfl al0 ?_
       refine calm_nil' ?_
       refine done_pre (li' := #[true, true, true, true, true, true, true, true, true, true, true, true, true, true, true, true, true, true, true, true, true, true, true, true, true, true, true, true, true, true, true, true, true, true, true, false, false]) (by kernel_rfl) ?_
       refine any_cutX (V := Unit) (fun _ => True) 0 #[true, true, true, true, true, true, true, true, true, true, true, true, true, true, true, true, true, true, true, true, true, true, true, true, true, true, true, true, true, true, true, true, true, true, true, true, true] (fun _ => [(5, .pointer (some ⟨γ6 0, 0, none⟩)), (6, .int .i64 to), (9, .pointer (some ⟨γ28 0, 0, none⟩)), (10, .slice (some ⟨g76, 0, none⟩) kz27 dz27), (12, .map (some (γ70 0))), (14, .pointer (some ⟨γ79 0, 0, none⟩)), (94, .slice (some ⟨g76, 0, none⟩) kz27 dz27), (95, .int .i64 ((kz27 : Nat))), (96, .int .i64 ((j : Nat))), (137, .bool false)]) (fun _ => bx (γ79 0) (#[.int .i64 x78.vcpu, .int .i64 x78.port, .int .i64 x78.at_, .int .i64 x78.missed]) 44 :: (γ70 0, .map es ck) :: bx (γ28 0) (#[.int .i64 to, .slice q27 m27 c27, .slice p27 k27 d27]) 27 :: bx (γ6 0) (#[.int .i64 now, .slice q5 m5 c5, .slice p5 k5 d5]) 27 :: bx (γ1 0) (#[.int .i64 now, .slice p n cap, .slice pa na ca]) 27 :: bx g76 cs76 44 :: (Y27 ++ (Yx27 ++ (Y5 ++ (Yx5 ++ []))))) ?_ (fun hmx1 => ?_)
       rotate_left
       ·
        refine a1 35 rfl ?_
        refine ops_lookupK (enc := Value.bool) (kk := (x78.vcpu, (if (1 : Int) < (x78.port : Int) then 1 else x78.port))) 1 (Value.bool false) (.bool false) two_ok (two_good (by omega) (by omega) (by omega) (by omega)) rfl (by kernel_rfl) (by kernel_rfl) (by kernel_rfl) (by kernel_rfl) (⟨4, by kernel_rfl, by kernel_rfl⟩ : mapK Try.prog 45 39 (Value.bool false)) rfl hM ((map_getD _ _ _).trans (congrArg Value.bool hmf)) ?_
        refine od_ ?_
        refine tk (m := 0) [36] [] [5, 6, 9, 10, 12, 14, 94, 95, 96] [(137, .bool false)] ([]) #[true, true, true, true, true, true, true, true, true, true, true, true, true, true, true, true, true, true, true, true, true, true, true, true, true, true, true, true, true, true, true, true, true, true, true, true, true] al0 ?_
        exact wk (hmx1 () trivial) [5, 6, 9, 10, 12, 14, 94, 95, 96, 137] [[_], [_], [_], [_], [_], [_], _, _, _, _] [0, 1, 2, 3, 4, 5, 6, 7, 8, 9] rfl rfl
       rintro _ _
       refine any_nil (by kernel_rfl) ?_
       refine ds_ (f_ (at_skip ?_))
       exact hm80.weakS [5, 6, 9, 10, 12, 14, 94, 95, 96] (by kernel_rfl)
     ·
      refine sq_ ?_
      have hrb := ring_bnd hgA hsp.1 hsp.2 hx78
      refine ao_ (qo0 7 [(2, .go (owns 0 0 1)), (4, .go (owns 0 1 1))] [5, 6, 9, 10, 12, 14, 94, 95, 96] [(138, .map (some (γ70 0))), (144, .agg #[.int .i64 x78.vcpu, .int .i64 ((if (1 : Int) < (x78.port : Int) then 1 else x78.port))])] (ops_updateK (enc := Value.bool) (kk := (x78.vcpu, (if (1 : Int) < (x78.port : Int) then 1 else x78.port))) 1 true (Value.bool false) two_ok (two_good (by omega) (by omega) (by omega) (by omega)) rfl (by kernel_rfl) (by kernel_rfl) (by kernel_rfl) (by kernel_rfl) (by kernel_rfl) (⟨4, by kernel_rfl, by kernel_rfl⟩ : mapK Try.prog 45 39 (Value.bool false)) rfl hM (fun es1656 ck1656 hM1656 => on_ (ds_ (sq_ ?_)))))
      by_cases q1658 : (x78.port : Int) = (0 : Int)
      ·
       obtain ⟨hs1, hs2, hs3⟩ := ring_sleep hgA hsp.1 hsp.2 hx78 q1658
       refine ao_ (qo0 3 [(0, .go (owns 3 0 3)), (2, .go (owns 0 0 1))] [5, 6, 9, 10, 12, 14, 94, 95, 96] [(146, .agg #[.int .i64 now, .slice q5 m5 c5, .slice p5 k5 d5]), (148, .int .i64 x78.vcpu)] (cD (.tuple #[.agg #[.int .i64 ((gaX (getA now ((shT ts)) ((shR rs)) x78.vcpu)).vcpu), .int .i64 ((gaX (getA now ((shT ts)) ((shR rs)) x78.vcpu)).port), .int .i64 ((gaX (getA now ((shT ts)) ((shR rs)) x78.vcpu)).every)], .int .i64 ((gaD (getA now ((shT ts)) ((shR rs)) x78.vcpu))), .bool ((getA now ((shT ts)) ((shR rs)) x78.vcpu).isSome)]) Try.call14 (fun w hw => by have := aget_t now q5 m5 c5 ((shT ts)) p5 k5 d5 ((shR rs)) x78.vcpu w (hO5.at ((hw.tailN 6).sub ((List.sublist_append_right Yx27 _).trans (List.sublist_append_right Y27 _)))) hO5.len (by omega) (hP5.at ((hw.tailN 6).sub (((List.sublist_append_right Y5 _).trans (List.sublist_append_right Yx27 _)).trans (List.sublist_append_right Y27 _)))) hP5.len (by omega) (by omega) (by omega); rw [gaV_is] at this; exact this) (mo0 8 [(9, .go (owns 0 0 3))] [5, 6, 9, 10, 12, 14, 94, 95, 96] (fun γ1660 => [(15, .pointer (some ⟨γ1660 0, 0, none⟩)), (16, .int .i64 ((gaD (getA now ((shT ts)) ((shR rs)) x78.vcpu)))), (17, .bool ((getA now ((shT ts)) ((shR rs)) x78.vcpu).isSome))]) (fun γ1660 L => bx (γ1660 0) (#[.int .i64 ((gaX (getA now ((shT ts)) ((shR rs)) x78.vcpu)).vcpu), .int .i64 ((gaX (getA now ((shT ts)) ((shR rs)) x78.vcpu)).port), .int .i64 ((gaX (getA now ((shT ts)) ((shR rs)) x78.vcpu)).every)]) 47 :: L) (fun γ1660 => on_ (ds_ (sq_ (sq_ (ao_ (qo0 3 [(0, .go (owns 4 0 3)), (2, .go (owns 1 0 1))] [5, 6, 9, 10, 12, 14, 15, 16, 17, 94, 95, 96] [(154, .agg #[.int .i64 now, .slice q5 m5 c5, .slice p5 k5 d5]), (156, .int .i64 x78.vcpu)] (cD (.tuple #[.int .i64 x78.at_, .bool true]) Try.call15 (fun w hw => by have := asleeps_t now q5 m5 c5 ((shT ts)) p5 k5 d5 ((shR rs)) x78.vcpu w (hO5.at ((hw.tailN 7).sub ((List.sublist_append_right Yx27 _).trans (List.sublist_append_right Y27 _)))) hO5.len (by omega) (hP5.at ((hw.tailN 7).sub (((List.sublist_append_right Y5 _).trans (List.sublist_append_right Yx27 _)).trans (List.sublist_append_right Y27 _)))) hP5.len (by omega) (by omega) (by omega); rw [hs1] at this; exact this) (qo0 5 [] [5, 6, 9, 10, 12, 14, 15, 16, 17, 94, 95, 96] [(18, .int .i64 x78.at_), (19, .bool true)] (on_ (ds_ (sq_ (ao_ (qo 14 [(1, .go (owns 1 1 1)), (2, .yes), (9, .go (owns 1 2 1)), (10, .no)] [5, 6, 9, 10, 12, 14, 15, 16, 17, 94, 95, 96] [(163, .bool true), (172, .bool false), (173, .pointer (some ⟨γ79 0, 3, none⟩))] ([(x78.port : Int) = (0 : Int)] ++ ([¬ ((x78.at_ : Int) ≠ (x78.at_ : Int))])) (alA (al1 q1658) (al1 ((fun h => h rfl)))) ?_))))))))))))))))
       refine qo 4 [(14, .go (owns 1 3 1)), (15, .no)] [5, 6, 9, 10, 12, 14, 15, 16, 17, 94, 95, 96] [(177, .bool false)] ([¬ ((x78.missed : Int) ≠ (0 : Int))]) (al1 ((by omega))) (on_ (ds_ (f_ (at_skip (ds_ (sq_ (sq_ (ao_ (qo 14 [(1, .go (owns 1 1 1)), (2, .no)] [5, 6, 9, 10, 12, 14, 15, 16, 94, 95, 96] [(181, .bool false), (191, undef)] ([¬ ((x78.port : Int) > (0 : Int))]) (al1 ((by omega))) (qo0 14 [] [5, 6, 9, 10, 12, 14, 94, 95, 96, 181] [(202, undef), (205, undef)] (qo0 7 [] [5, 6, 9, 10, 12, 14, 94, 95, 96] [(212, .bool false)] (on_ (ds_ (f_ (at_skip (ds_ (sq_ (ao_ (qo0 3 [(0, .go (owns 3 0 3)), (2, .go (owns 1 0 1))] [5, 6, 9, 10, 12, 14, 94, 95, 96] [(214, .agg #[.int .i64 to, .slice q27 m27 c27, .slice p27 k27 d27]), (216, .int .i64 x78.vcpu)] (cD (.tuple #[.int .i64 0, .bool false]) Try.call15 (fun w hw => by have := asleeps_t to q27 m27 c27 (((ringsV to (shT ts) (shR rs)).1)) p27 k27 d27 (((ringsV to (shT ts) (shR rs)).2.1)) x78.vcpu w (hO27.atN (A := [_, _, _, _, _, _, _]) hw) hO27.len (by omega) (hP27.atN (A := (_ :: _ :: _ :: _ :: _ :: _ :: _ :: Y27)) hw) hP27.len (by omega) (by omega) (by omega); rw [hs3] at this; exact this) (qo0 5 [] [5, 6, 9, 10, 12, 14, 94, 95, 96] [(21, .bool false)] (on_ (ds_ (sq_ (qa [(1, .go (owns 1 1 1)), (2, .yes)] [5, 6, 9, 10, 12, 94, 95, 96] [(225, .bool false)] ([(x78.port : Int) = (0 : Int)]) (al1 q1658) (ds_ (f_ (at_skip (done_block (ds_ (qa [(0, .fit)] [5, 6, 9, 10, 12, 94, 95] [(96, .int .i64 ((j + 1 : Nat)))] ([Fit .i64 ((j + 1 : Nat))]) (al1 (fit64 (by omega) (by omega))) (Done.pick [[bx (γ1660 0) (#[.int .i64 ((gaX (getA now ((shT ts)) ((shR rs)) x78.vcpu)).vcpu), .int .i64 ((gaX (getA now ((shT ts)) ((shR rs)) x78.vcpu)).port), .int .i64 ((gaX (getA now ((shT ts)) ((shR rs)) x78.vcpu)).every)]) 47], [bx (γ79 0) (#[.int .i64 x78.vcpu, .int .i64 x78.port, .int .i64 x78.at_, .int .i64 x78.missed]) 44], [(γ70 0, .map es1656 ck1656)], [bx (γ28 0) (#[.int .i64 to, .slice q27 m27 c27, .slice p27 k27 d27]) 27], [bx (γ6 0) (#[.int .i64 now, .slice q5 m5 c5, .slice p5 k5 d5]) 27], [bx (γ1 0) (#[.int .i64 now, .slice p n cap, .slice pa na ca]) 27], [bx g76 cs76 44], Y27, Yx27, Y5, Yx5] [2, 3, 4, 5, 7, 8, 6, 9, 10] [0, 1] ((γ70 0, .map es1656 ck1656) :: bx (γ28 0) (#[.int .i64 to, .slice q27 m27 c27, .slice p27 k27 d27]) 27 :: bx (γ6 0) (#[.int .i64 now, .slice q5 m5 c5, .slice p5 k5 d5]) 27 :: bx (γ1 0) (#[.int .i64 now, .slice p n cap, .slice pa na ca]) 27 :: (Y27 ++ (Yx27 ++ ([bx g76 cs76 44] ++ (Y5 ++ (Yx5 ++ [])))))) (by kernel_rfl) rfl rfl ?_))))))))))))))))))))))))))))))))
       exact dr [5, 6, 9, 10, 12, 94, 95, 96] (j + 1, es1656, ck1656) ⟨by omega, by rw [met_on hx78, keyR_if]; exact hM1656⟩
      ·
       obtain ⟨za, ha1, ha2, ha3, ha4⟩ := ring_alarm hgA hsp.1 hsp.2 hx78 q1658
       refine ao_ (qo0 3 [(0, .go (owns 3 0 3)), (2, .go (owns 0 0 1))] [5, 6, 9, 10, 12, 14, 94, 95, 96] [(146, .agg #[.int .i64 now, .slice q5 m5 c5, .slice p5 k5 d5]), (148, .int .i64 x78.vcpu)] (cD (.tuple #[.agg #[.int .i64 za.vcpu, .int .i64 za.port, .int .i64 za.every], .int .i64 x78.at_, .bool true]) Try.call14 (fun w hw => by have := aget_t now q5 m5 c5 ((shT ts)) p5 k5 d5 ((shR rs)) x78.vcpu w (hO5.at ((hw.tailN 6).sub ((List.sublist_append_right Yx27 _).trans (List.sublist_append_right Y27 _)))) hO5.len (by omega) (hP5.at ((hw.tailN 6).sub (((List.sublist_append_right Y5 _).trans (List.sublist_append_right Yx27 _)).trans (List.sublist_append_right Y27 _)))) hP5.len (by omega) (by omega) (by omega); rw [ha1] at this; exact this) (mo0 8 [(9, .go (owns 0 0 3))] [5, 6, 9, 10, 12, 14, 94, 95, 96] (fun γ1673 => [(15, .pointer (some ⟨γ1673 0, 0, none⟩)), (16, .int .i64 x78.at_), (17, .bool true)]) (fun γ1673 L => bx (γ1673 0) (#[.int .i64 za.vcpu, .int .i64 za.port, .int .i64 za.every]) 47 :: L) (fun γ1673 => on_ (ds_ (sq_ (sq_ (ao_ (qo0 3 [(0, .go (owns 4 0 3)), (2, .go (owns 1 0 1))] [5, 6, 9, 10, 12, 14, 15, 16, 17, 94, 95, 96] [(154, .agg #[.int .i64 now, .slice q5 m5 c5, .slice p5 k5 d5]), (156, .int .i64 x78.vcpu)] (cD (.tuple #[.int .i64 ((((slpO now ((shT ts)) ((shR rs)) x78.vcpu).map Tim.due).getD 0)), .bool ((slpO now ((shT ts)) ((shR rs)) x78.vcpu).isSome)]) Try.call15 (fun w hw => by have := asleeps_t now q5 m5 c5 ((shT ts)) p5 k5 d5 ((shR rs)) x78.vcpu w (hO5.at ((hw.tailN 7).sub ((List.sublist_append_right Yx27 _).trans (List.sublist_append_right Y27 _)))) hO5.len (by omega) (hP5.at ((hw.tailN 7).sub (((List.sublist_append_right Y5 _).trans (List.sublist_append_right Yx27 _)).trans (List.sublist_append_right Y27 _)))) hP5.len (by omega) (by omega) (by omega); rw [atV_is] at this; exact this) (qo0 5 [] [5, 6, 9, 10, 12, 14, 15, 16, 17, 94, 95, 96] [(18, .int .i64 ((((slpO now ((shT ts)) ((shR rs)) x78.vcpu).map Tim.due).getD 0))), (19, .bool ((slpO now ((shT ts)) ((shR rs)) x78.vcpu).isSome))] (on_ (ds_ (sq_ (ao_ (qo 14 [(1, .go (owns 1 1 1)), (2, .no)] [5, 6, 9, 10, 12, 14, 15, 16, 17, 94, 95, 96] [(163, .bool false), (172, undef), (173, undef)] ([¬ ((x78.port : Int) = (0 : Int))]) (al1 q1658) (qo0 4 [] [5, 6, 9, 10, 12, 14, 15, 16, 17, 94, 95, 96] [(177, .bool false)] (on_ (ds_ (f_ (at_skip (ds_ (sq_ (sq_ (ao_ (qo 14 [(1, .go (owns 1 1 1)), (2, .yes), (8, .go (owns 0 1 1)), (10, .go (owns 1 1 1)), (11, .no)] [5, 6, 9, 10, 12, 14, 15, 16, 94, 95, 96] [(181, .bool true), (191, .bool false)] ([(x78.port : Int) > (0 : Int)] ++ ([¬ ((za.port : Int) ≠ (x78.port : Int))])) (alA (al1 ((by omega))) (al1 ((by omega)))) ?_))))))))))))))))))))))))))
       by_cases q1680 : (za.every : Int) = (0 : Int)
       ·
        refine qo 14 [(16, .go (owns 1 2 1)), (17, .no), (21, .go (owns 1 3 1)), (22, .no), (26, .go (owns 0 2 1)), (27, .yes)] [5, 6, 9, 10, 12, 14, 94, 95, 96, 181] [(202, .bool false), (205, .bool true)] ([¬ ((x78.at_ : Int) ≠ (x78.at_ : Int))] ++ ([¬ ((x78.missed : Int) < (0 : Int))] ++ ([(za.every : Int) = (0 : Int)]))) (alA (al1 ((fun h => h rfl))) (alA (al1 ((by omega))) (al1 q1680))) (qo 7 [(30, .go (owns 1 3 1)), (31, .no)] [5, 6, 9, 10, 12, 14, 94, 95, 96] [(212, .bool false)] ([¬ ((x78.missed : Int) ≠ (0 : Int))]) (al1 ((by have := ha4 (by omega); omega))) (on_ (ds_ (f_ (at_skip (ds_ (sq_ (ao_ (qo0 3 [(0, .go (owns 3 0 3)), (2, .go (owns 1 0 1))] [5, 6, 9, 10, 12, 14, 94, 95, 96] [(214, .agg #[.int .i64 to, .slice q27 m27 c27, .slice p27 k27 d27]), (216, .int .i64 x78.vcpu)] (cD (.tuple #[.int .i64 ((((slpO to (((ringsV to (shT ts) (shR rs)).1)) (((ringsV to (shT ts) (shR rs)).2.1)) x78.vcpu).map Tim.due).getD 0)), .bool ((slpO to (((ringsV to (shT ts) (shR rs)).1)) (((ringsV to (shT ts) (shR rs)).2.1)) x78.vcpu).isSome)]) Try.call15 (fun w hw => by have := asleeps_t to q27 m27 c27 (((ringsV to (shT ts) (shR rs)).1)) p27 k27 d27 (((ringsV to (shT ts) (shR rs)).2.1)) x78.vcpu w (hO27.atN (A := [_, _, _, _, _, _, _]) hw) hO27.len (by omega) (hP27.atN (A := (_ :: _ :: _ :: _ :: _ :: _ :: _ :: Y27)) hw) hP27.len (by omega) (by omega) (by omega); rw [atV_is] at this; exact this) (qo0 5 [] [5, 6, 9, 10, 12, 14, 94, 95, 96] [(21, .bool ((slpO to (((ringsV to (shT ts) (shR rs)).1)) (((ringsV to (shT ts) (shR rs)).2.1)) x78.vcpu).isSome))] (on_ (ds_ (sq_ (qa [(1, .go (owns 1 1 1)), (2, .no)] [5, 6, 9, 10, 12, 94, 95, 96] [(225, .bool false)] ([¬ ((x78.port : Int) = (0 : Int))]) (al1 q1658) (ds_ (f_ (at_skip (done_block (ds_ (qa [(0, .fit)] [5, 6, 9, 10, 12, 94, 95] [(96, .int .i64 ((j + 1 : Nat)))] ([Fit .i64 ((j + 1 : Nat))]) (al1 (fit64 (by omega) (by omega))) (Done.pick [[bx (γ1673 0) (#[.int .i64 za.vcpu, .int .i64 za.port, .int .i64 za.every]) 47], [bx (γ79 0) (#[.int .i64 x78.vcpu, .int .i64 x78.port, .int .i64 x78.at_, .int .i64 x78.missed]) 44], [(γ70 0, .map es1656 ck1656)], [bx (γ28 0) (#[.int .i64 to, .slice q27 m27 c27, .slice p27 k27 d27]) 27], [bx (γ6 0) (#[.int .i64 now, .slice q5 m5 c5, .slice p5 k5 d5]) 27], [bx (γ1 0) (#[.int .i64 now, .slice p n cap, .slice pa na ca]) 27], [bx g76 cs76 44], Y27, Yx27, Y5, Yx5] [2, 3, 4, 5, 7, 8, 6, 9, 10] [0, 1] ((γ70 0, .map es1656 ck1656) :: bx (γ28 0) (#[.int .i64 to, .slice q27 m27 c27, .slice p27 k27 d27]) 27 :: bx (γ6 0) (#[.int .i64 now, .slice q5 m5 c5, .slice p5 k5 d5]) 27 :: bx (γ1 0) (#[.int .i64 now, .slice p n cap, .slice pa na ca]) 27 :: (Y27 ++ (Yx27 ++ ([bx g76 cs76 44] ++ (Y5 ++ (Yx5 ++ [])))))) (by kernel_rfl) rfl rfl ?_))))))))))))))))))))))
        exact dr [5, 6, 9, 10, 12, 94, 95, 96] (j + 1, es1656, ck1656) ⟨by omega, by rw [met_on hx78, keyR_if]; exact hM1656⟩
       ·
        refine qo 14 [(16, .go (owns 1 2 1)), (17, .no), (21, .go (owns 1 3 1)), (22, .no), (26, .go (owns 0 2 1)), (27, .no)] [5, 6, 9, 10, 12, 14, 94, 95, 96, 181] [(202, .bool false), (205, .bool false)] ([¬ ((x78.at_ : Int) ≠ (x78.at_ : Int))] ++ ([¬ ((x78.missed : Int) < (0 : Int))] ++ ([¬ ((za.every : Int) = (0 : Int))]))) (alA (al1 ((fun h => h rfl))) (alA (al1 ((by omega))) (al1 q1680))) (qo0 7 [] [5, 6, 9, 10, 12, 14, 94, 95, 96] [(212, .bool false)] (on_ (ds_ (f_ (at_skip (ds_ (sq_ (ao_ (qo0 3 [(0, .go (owns 3 0 3)), (2, .go (owns 1 0 1))] [5, 6, 9, 10, 12, 14, 94, 95, 96] [(214, .agg #[.int .i64 to, .slice q27 m27 c27, .slice p27 k27 d27]), (216, .int .i64 x78.vcpu)] (cD (.tuple #[.int .i64 ((((slpO to (((ringsV to (shT ts) (shR rs)).1)) (((ringsV to (shT ts) (shR rs)).2.1)) x78.vcpu).map Tim.due).getD 0)), .bool ((slpO to (((ringsV to (shT ts) (shR rs)).1)) (((ringsV to (shT ts) (shR rs)).2.1)) x78.vcpu).isSome)]) Try.call15 (fun w hw => by have := asleeps_t to q27 m27 c27 (((ringsV to (shT ts) (shR rs)).1)) p27 k27 d27 (((ringsV to (shT ts) (shR rs)).2.1)) x78.vcpu w (hO27.atN (A := [_, _, _, _, _, _, _]) hw) hO27.len (by omega) (hP27.atN (A := (_ :: _ :: _ :: _ :: _ :: _ :: _ :: Y27)) hw) hP27.len (by omega) (by omega) (by omega); rw [atV_is] at this; exact this) (qo0 5 [] [5, 6, 9, 10, 12, 14, 94, 95, 96] [(21, .bool ((slpO to (((ringsV to (shT ts) (shR rs)).1)) (((ringsV to (shT ts) (shR rs)).2.1)) x78.vcpu).isSome))] (on_ (ds_ (sq_ (qa [(1, .go (owns 1 1 1)), (2, .no)] [5, 6, 9, 10, 12, 94, 95, 96] [(225, .bool false)] ([¬ ((x78.port : Int) = (0 : Int))]) (al1 q1658) (ds_ (f_ (at_skip (done_block (ds_ (qa [(0, .fit)] [5, 6, 9, 10, 12, 94, 95] [(96, .int .i64 ((j + 1 : Nat)))] ([Fit .i64 ((j + 1 : Nat))]) (al1 (fit64 (by omega) (by omega))) (Done.pick [[bx (γ1673 0) (#[.int .i64 za.vcpu, .int .i64 za.port, .int .i64 za.every]) 47], [bx (γ79 0) (#[.int .i64 x78.vcpu, .int .i64 x78.port, .int .i64 x78.at_, .int .i64 x78.missed]) 44], [(γ70 0, .map es1656 ck1656)], [bx (γ28 0) (#[.int .i64 to, .slice q27 m27 c27, .slice p27 k27 d27]) 27], [bx (γ6 0) (#[.int .i64 now, .slice q5 m5 c5, .slice p5 k5 d5]) 27], [bx (γ1 0) (#[.int .i64 now, .slice p n cap, .slice pa na ca]) 27], [bx g76 cs76 44], Y27, Yx27, Y5, Yx5] [2, 3, 4, 5, 7, 8, 6, 9, 10] [0, 1] ((γ70 0, .map es1656 ck1656) :: bx (γ28 0) (#[.int .i64 to, .slice q27 m27 c27, .slice p27 k27 d27]) 27 :: bx (γ6 0) (#[.int .i64 now, .slice q5 m5 c5, .slice p5 k5 d5]) 27 :: bx (γ1 0) (#[.int .i64 now, .slice p n cap, .slice pa na ca]) 27 :: (Y27 ++ (Yx27 ++ ([bx g76 cs76 44] ++ (Y5 ++ (Yx5 ++ [])))))) (by kernel_rfl) rfl rfl ?_))))))))))))))))))))))
        exact dr [5, 6, 9, 10, 12, 94, 95, 96] (j + 1, es1656, ck1656) ⟨by omega, by rw [met_on hx78, keyR_if]; exact hM1656⟩
    ·
     refine qa [(0, .no)] [5, 6, 9, 10, 12, 94, 95, 96] [(97, .bool false)] ([¬ (((j : Nat) : Int) < ((kz27 : Nat) : Int))]) (al1 q73) (ds_ (sq_ (f_ (at_leave _ rfl (ds_ (sq_ (ao_ (qo0 1 [(0, .go (owns 1 0 3))] [6] [(228, .agg #[.int .i64 to, .slice q27 m27 c27, .slice p27 k27 d27])] (cD (.tuple #[.int .i64 (leastV ((ringsV to (shT ts) (shR rs)).1)), .bool (decide (((ringsV to (shT ts) (shR rs)).1) ≠ []))]) Try.call13 (fun w hw => by have := anext_t to q27 m27 c27 (((ringsV to (shT ts) (shR rs)).1)) p27 k27 d27 (((ringsV to (shT ts) (shR rs)).2.1)) w (hO27.atN (A := [_, _, _, _]) hw) hO27.len (by omega) (hP27.atN (A := (_ :: _ :: _ :: _ :: Y27)) hw) hP27.len (by omega); rw [nextAV_ok hgb, nextV_dec (al_iff.1 hgb).wh] at this; exact this) (qo0 5 [] [6] [(22, .int .i64 (leastV ((ringsV to (shT ts) (shR rs)).1))), (23, .bool (decide (((ringsV to (shT ts) (shR rs)).1) ≠ [])))] (on_ (ds_ (sq_ ?_)))))))))))))
     rcases q1697 : decide (((ringsV to (shT ts) (shR rs)).1) ≠ []) with _ | _
     ·
      refine qa0 [] [] [(4, .bool true)] (ds_ (rt ([]) (.bool true) ?_))
      exact fun w' hw => ⟨rfl, hw.below⟩
     ·
      by_cases q1700 : (leastV ((ringsV to (shT ts) (shR rs)).1) : Int) > (to : Int)
      ·
       refine qa [(5, .yes)] [] [(4, .bool true)] ([(leastV ((ringsV to (shT ts) (shR rs)).1) : Int) > (to : Int)]) (al1 q1700) (ds_ (rt ([]) (.bool true) ?_))
       exact fun w' hw => ⟨rfl, hw.below⟩
      ·
       refine qa [(5, .no)] [] [(4, .bool false)] ([¬ ((leastV ((ringsV to (shT ts) (shR rs)).1) : Int) > (to : Int))]) (al1 q1700) (ds_ (rt ([]) (.bool false) ?_))
       exfalso
       have hoa := order_after hgA hsp.1 hsp.2 (of_decide_eq_true q1697)
       first | omega | (have hxx := ha4 (by omega); omega)
end Go.Proofs.Ytdbamgbgnpadjaa

/-! The walker: what a row's inputs are: slices and structs, opened into lists. -/
namespace Go.Proofs.Ytdbamgbgnpadjaa
open Go Go.RowKit

section
variable {H : Type} {enc : TypeId × Value → H} {P : Program} {w : World} {base : Nat} {spare : Nat → Bool} {held : Bool}
theorem spot_none {a : Addr} (h : a.spot = none) : a = ⟨a.block, a.off, none⟩ := by
  cases a
  simp at h
  simp [h]
theorem trod_sv {α : Type} [Enc α] {t e : TypeId} {fuel : Nat} {cs : List Value} {x : DataW H × List MemPlace} {Good : α → Prop} (ht : P.underlying t = some (.slice e)) (hc : P.cellsOf e = Enc.k α)
    (hopen : ∀ (fuel : Nat) (cs : List Value) (x : DataW H × List MemPlace), DataW.trod enc P w base spare held fuel e cs = some x → ∃ a : α, cs = Enc.enc a ∧ Good a) (h : DataW.trod enc P w base spare held fuel t cs = some x) :
    ∃ (p : Option Addr) (n cap : Nat) (l : List α), cs = [.slice p n cap] ∧ Sv w p l ∧ n = l.length ∧ n ≤ cap ∧ cap ≤ maxLen ∧ ∀ y ∈ l, Good y := by
  rcases Deep.open_slice ht h with ⟨hcs, _⟩ | ⟨a, len, cap, m, n', D, Pl, hcs, _, hle, hmx, hm, _, hi⟩
  · exact ⟨none, 0, 0, [], hcs, Sv.nil, rfl, Nat.le_refl _, Nat.zero_le _, fun y hy => by cases hy⟩
  · have key : ∀ i, i < len → ∃ y : α, w.cells? base (a.add (i * Enc.k α)) (Enc.k α) = some (Enc.enc y) ∧ Good y := fun i hin => by
      have him : i < m := by rw [hm]; split <;> omega
      obtain ⟨cs', h1, h2⟩ := hi i him
      obtain ⟨y, rfl, hy⟩ := hopen _ _ _ h2
      rw [hc] at h1
      exact ⟨y, h1, hy⟩
    rcases Nat.eq_zero_or_pos len with h0 | h0
    · subst h0
      exact ⟨some a, 0, cap, [], hcs, Sv.nil, rfl, hle, hmx, fun y hy => by cases hy⟩
    · obtain ⟨y0, hy0, _⟩ := key 0 h0
      haveI : Inhabited α := ⟨y0⟩
      obtain ⟨f, hf⟩ := Deep.choose_lt key
      obtain ⟨_, _, hcell⟩ := World.cells?_some hy0
      have h00 := hcell 0 Enc.pos
      have hlen0 : 0 < (Enc.enc y0).length := by rw [Enc.len]; exact Enc.pos
      rw [List.getElem?_eq_getElem hlen0, Nat.zero_mul, show (a.add 0).add 0 = a by simp [Addr.add]] at h00
      have hsp := spot_none (World.cell?_spot h00)
      refine ⟨some a, len, cap, (List.range len).map f, hcs, ⟨fun _ => ⟨a.block, a.off, by rw [← hsp]⟩, fun b o hbo i hil => ?_⟩, by simp, hle, hmx, fun y hy => ?_⟩
      · have hil' : i < len := by simpa using hil
        obtain ⟨_, _, hc2⟩ := World.cells?_some (hf i hil').1
        have ha : a = ⟨b, o, none⟩ := by simpa using hbo
        subst ha
        intro j v hj
        have hjk : j < Enc.k α := by rw [← Enc.len (f i)]; have := (List.getElem?_eq_some_iff.1 hj).1; simpa using this
        have h3 := hc2 j hjk
        rw [Deep.add_add] at h3
        have h4 : (Enc.enc (f i))[j]? = some v := by simpa using hj
        rw [h4] at h3
        have h5 : (⟨b, o, none⟩ : Addr).add (i * Enc.k α + j) = ⟨b, o + i * Enc.k α + j, none⟩ := by
          unfold Addr.add; split <;> simp_all <;> omega
        rw [h5] at h3
        exact h3
      · obtain ⟨i, hir, rfl⟩ := List.mem_map.1 hy
        exact (hf i (List.mem_range.1 hir)).2
end
end Go.Proofs.Ytdbamgbgnpadjaa

/-! Chapter 18: what the rows' inputs are. -/
namespace Go.Proofs.Ytdbamgbgnpadjaa
open Go Go.RowKit Go.ChangeShapes Go.WideShapes

section
variable {H : Type} {enc : TypeId × Value → H} {w : World} {base : Nat} {spare : Nat → Bool} {held : Bool}
theorem cIntT : Try.prog.cellsOf 3 = 1 := by kernel_rfl
theorem cI64T : Try.prog.cellsOf 2 = 1 := by kernel_rfl
theorem cWheel : Try.prog.cellsOf 24 = 2 := by kernel_rfl
theorem cTims : Try.prog.cellsOf 22 = 1 := by kernel_rfl
theorem cAlms : Try.prog.cellsOf 25 = 1 := by kernel_rfl
theorem cAlarms : Try.prog.cellsOf 27 = 3 := by kernel_rfl
theorem list2V {α : Type} {cs : List α} (h : cs.length = 2) : ∃ c0 c1, cs = [c0, c1] := by
  match cs, h with
  | [c0, c1], _ => exact ⟨c0, c1, rfl⟩
theorem list3V {α : Type} {cs : List α} (h : cs.length = 3) : ∃ c0 c1 c2, cs = [c0, c1, c2] := by
  match cs, h with
  | [c0, c1, c2], _ => exact ⟨c0, c1, c2, rfl⟩
theorem timer_open_cells : Try.prog.cellsOf 88 = 2 := by kernel_rfl
theorem timer_open_list {α : Type} {cs : List α} (h : cs.length = 2) : ∃ c0 c1, cs = [c0, c1] := by
  match cs, h with
  | [c0, c1], _ => exact ⟨c0, c1, rfl⟩
theorem timer_open {fuel : Nat} {cs : List Value} {x : DataW H × List MemPlace} (h : DataW.trod enc Try.prog w base spare held fuel 88 cs = some x) : ∃ a : Tim, cs = Enc.enc a ∧ True := by
  obtain ⟨xs, n, _, rfl, hl, hlen, hf⟩ := DataW.trod_struct Try.underlying88 h
  rw [timer_open_cells] at hl
  obtain ⟨c0, c1, rfl⟩ := timer_open_list hl
  obtain ⟨y0, y1, rfl⟩ := timer_open_list hlen
  have h0 : DataW.trod enc Try.prog w base spare held n 3 (([c0, c1].drop 0).take (Try.prog.cellsOf 3)) = some y0 := hf 0 _ rfl
  have h1 : DataW.trod enc Try.prog w base spare held n 2 (([c0, c1].drop 1).take (Try.prog.cellsOf 2)) = some y1 := hf 1 _ rfl
  clear hf hl hlen h
  rw [cIntT] at h0
  rw [cI64T] at h1
  simp only [List.drop_zero, List.take_succ_cons, List.take_zero, List.drop_succ_cons] at h0 h1
  obtain ⟨v0, e0, _, _⟩ := DataW.trod_int Try.underlying3 h0
  obtain ⟨v1, e1, _, _⟩ := DataW.trod_int Try.underlying2 h1
  simp only [List.cons.injEq, and_true] at e0 e1
  subst e0; subst e1
  exact ⟨⟨v0, v1⟩, rfl, trivial⟩
theorem alarm_open_cells : Try.prog.cellsOf 47 = 3 := by kernel_rfl
theorem alarm_open_list {α : Type} {cs : List α} (h : cs.length = 3) : ∃ c0 c1 c2, cs = [c0, c1, c2] := by
  match cs, h with
  | [c0, c1, c2], _ => exact ⟨c0, c1, c2, rfl⟩
theorem alarm_open {fuel : Nat} {cs : List Value} {x : DataW H × List MemPlace} (h : DataW.trod enc Try.prog w base spare held fuel 47 cs = some x) : ∃ a : Alm, cs = Enc.enc a ∧ True := by
  obtain ⟨xs, n, _, rfl, hl, hlen, hf⟩ := DataW.trod_struct Try.underlying47 h
  rw [alarm_open_cells] at hl
  obtain ⟨c0, c1, c2, rfl⟩ := alarm_open_list hl
  obtain ⟨y0, y1, y2, rfl⟩ := alarm_open_list hlen
  have h0 : DataW.trod enc Try.prog w base spare held n 3 (([c0, c1, c2].drop 0).take (Try.prog.cellsOf 3)) = some y0 := hf 0 _ rfl
  have h1 : DataW.trod enc Try.prog w base spare held n 3 (([c0, c1, c2].drop 1).take (Try.prog.cellsOf 3)) = some y1 := hf 1 _ rfl
  have h2 : DataW.trod enc Try.prog w base spare held n 2 (([c0, c1, c2].drop 2).take (Try.prog.cellsOf 2)) = some y2 := hf 2 _ rfl
  clear hf hl hlen h
  rw [cIntT] at h0 h1
  rw [cI64T] at h2
  simp only [List.drop_zero, List.take_succ_cons, List.take_zero, List.drop_succ_cons] at h0 h1 h2
  obtain ⟨v0, e0, _, _⟩ := DataW.trod_int Try.underlying3 h0
  obtain ⟨v1, e1, _, _⟩ := DataW.trod_int Try.underlying3 h1
  obtain ⟨v2, e2, _, _⟩ := DataW.trod_int Try.underlying2 h2
  simp only [List.cons.injEq, and_true] at e0 e1 e2
  subst e0; subst e1; subst e2
  exact ⟨⟨v0, v1, v2⟩, rfl, trivial⟩
set_option maxRecDepth 100000 in
theorem alarms_open {v : Value} {d : DataW H} {pl : List MemPlace} (hv : Value.okWide Try.prog w .any base 27 v) (h : DataW.Trod enc Try.prog w 0 spare held 27 v d pl) :
    ∃ (now : Int) (p : Option Addr) (n cap : Nat) (ts : List Tim) (pa : Option Addr) (na ca : Nat) (rs : List Alm), v = .agg #[.int .i64 now, .slice p n cap, .slice pa na ca] ∧ (Sv w p ts ∧ n = ts.length ∧ n ≤ cap ∧ cap ≤ 9223372036854775807) ∧ (Sv w pa rs ∧ na = rs.length ∧ na ≤ ca ∧ ca ≤ 9223372036854775807) := by
  obtain ⟨cs, rfl, hsz⟩ := okWide_struct Try.underlying27 hv
  obtain ⟨fuel, hf⟩ := h
  obtain ⟨xs, n, _, _, hl, hlen, hf⟩ := DataW.trod_struct Try.underlying27 hf
  obtain ⟨y0, y1, rfl⟩ := list2V hlen
  have h0 : DataW.trod enc Try.prog w 0 spare held n 24 ((((Value.agg cs).cells.toList).drop 0).take (Try.prog.cellsOf 24)) = some y0 := hf 0 _ rfl
  have h1 : DataW.trod enc Try.prog w 0 spare held n 25 ((((Value.agg cs).cells.toList).drop 2).take (Try.prog.cellsOf 25)) = some y1 := hf 1 _ rfl
  rw [cAlarms] at hl
  obtain ⟨c0, c1, c2, hc0⟩ := list3V hl
  rw [hc0, cWheel] at h0
  rw [hc0, cAlms] at h1
  simp only [List.drop_zero, List.take_succ_cons, List.take_zero, List.drop_succ_cons] at h0 h1
  obtain ⟨xs2, n2, _, rfl, hl2, hlen2, hf2⟩ := DataW.trod_struct Try.underlying24 h0
  obtain ⟨z0, z1, rfl⟩ := list2V hlen2
  have g0 : DataW.trod enc Try.prog w 0 spare held n2 2 (([c0, c1].drop 0).take (Try.prog.cellsOf 2)) = some z0 := hf2 0 _ rfl
  have g1 : DataW.trod enc Try.prog w 0 spare held n2 22 (([c0, c1].drop 1).take (Try.prog.cellsOf 22)) = some z1 := hf2 1 _ rfl
  rw [cI64T] at g0
  rw [cTims] at g1
  simp only [List.drop_zero, List.take_succ_cons, List.take_zero, List.drop_succ_cons] at g0 g1
  obtain ⟨a, ea, _, _⟩ := DataW.trod_int Try.underlying2 g0
  obtain ⟨q, m, capv, l2, he2, hs2, hm, hle2, hmx2, _⟩ := trod_sv (Good := fun _ => True) Try.underlying22 timer_open_cells (fun _ _ _ h => timer_open h) g1
  obtain ⟨q3, m3, capv3, l3, he3, hs3, hm3, hle3, hmx3, _⟩ := trod_sv (Good := fun _ => True) Try.underlying25 alarm_open_cells (fun _ _ _ h => alarm_open h) h1
  simp only [List.cons.injEq, and_true] at ea he2 he3
  subst ea; subst he2; subst he3
  refine ⟨a, q, m, capv, l2, q3, m3, capv3, l3, ?_, ⟨hs2, hm, hle2, hmx2⟩, hs3, hm3, hle3, hmx3⟩
  congr 1
  exact Array.toList_inj.1 (by simpa [Value.cells] using hc0)
end
end Go.Proofs.Ytdbamgbgnpadjaa
