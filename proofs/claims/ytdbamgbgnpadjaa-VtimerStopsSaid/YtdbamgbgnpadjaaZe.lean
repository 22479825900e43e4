/- Texts of this proof, one behind the other. -/
import Derived.Test.YtdbamgbgnpadjaaZc
import Derived.Test.YtdbamgbgnpadjaaZd
/-! Alarms: the layer does something; in memory of their own. -/
namespace Go.Proofs.Ytdbamgbgnpadjaa
open Go Go.RowKit
theorem Hs.joinZ {w0 w w' : World} {L Y X Z : List Ob} (h : Hs w0 L w) (hb : Below w.heap.size w w') (hY : Hs w (Y ++ (X ++ Z)) w') (n : Nat) : Hs w0 (L.take n ++ (Y ++ (X ++ (Z ++ L.drop n)))) w' := by
 have := h.join hb hY n
 rwa [List.append_assoc, List.append_assoc] at this
theorem rng_eqRun (op : BinOp) (hop : op = .eql ∨ op = .neq) (x y : Operand) (a b : Rng) (r : Bool) (hr : r = (if op = .eql then decide (a = b) else !decide (a = b))) : EqRun Try.prog op 44 x y (.agg #[.int .i64 a.vcpu, .int .i64 a.port, .int .i64 a.at_, .int .i64 a.missed]) (.agg #[.int .i64 b.vcpu, .int .i64 b.port, .int .i64 b.at_, .int .i64 b.missed]) r := by
 intro w
 subst hr
 have hS : Try.prog.underlying 44 = some (.struct (Try.prog.fieldsOf 44)) := by kernel_rfl
 have hp : Try.prog.stoodInHeld 44 = false := by kernel_rfl
 have hg : Try.prog.eqGuardType Try.prog.depth 44 = false := by kernel_rfl
 have key : (Op.equal 44 (.agg #[.int .i64 a.vcpu, .int .i64 a.port, .int .i64 a.at_, .int .i64 a.missed]) (.agg #[.int .i64 b.vcpu, .int .i64 b.port, .int .i64 b.at_, .int .i64 b.missed])).run Try.prog w = .ok (decide (a = b)) w := by
  unfold Op.equal
  rw [show Op.maxDepth = 9999 + 1 from rfl, run_equalIn_struct w 9999 44 _ _ hS hp]
  simp only [Program.fieldsOf, Try.underlying44]
  go_simp
  obtain ⟨a0, a1, a2, a3⟩ := a
  obtain ⟨b0, b1, b2, b3⟩ := b
  simp only [Rng.mk.injEq]
  by_cases h0 : a0 = b0 <;> by_cases h1 : a1 = b1 <;> by_cases h2 : a2 = b2 <;> by_cases h3 : a3 = b3 <;> simp [h0, h1, h2, h3]
 have guard : (eqGuard op 44 x y (.agg #[.int .i64 a.vcpu, .int .i64 a.port, .int .i64 a.at_, .int .i64 a.missed]) (.agg #[.int .i64 b.vcpu, .int .i64 b.port, .int .i64 b.at_, .int .i64 b.missed])).run Try.prog w = .ok () w := by
  unfold eqGuard
  rcases hop with rfl | rfl <;> simp [hg]
 rw [Sem.run_bind, guard]
 simp only [Result.andThen_ok]
 rcases hop with rfl | rfl <;> simp [binOp, Sem.run_bind, key]
theorem rng_eq_t {x y : Operand} {a b : Rng} (h : a = b) : EqRun Try.prog .eql 44 x y (.agg #[.int .i64 a.vcpu, .int .i64 a.port, .int .i64 a.at_, .int .i64 a.missed]) (.agg #[.int .i64 b.vcpu, .int .i64 b.port, .int .i64 b.at_, .int .i64 b.missed]) true := rng_eqRun _ (.inl rfl) x y a b _ (by simp [h])
set_option maxRecDepth 100000 in
theorem awakes_t  (w : World)
 : Calls Try.prog 7 #[] w fun e w' => e = .returned (.bool true) ∧ Below w.heap.size w w' := by
 refine enter (Hs.start w) Try.func7 rfl Try.ntmps7 rfl (sq_ (qa0 [] [] [] (ds_ (sq_ (ao_ (qo0 2 [] [] [(10, .agg #[.int .i64 0, .slice none 0 0, .slice none 0 0]), (11, .agg #[.int .i64 2, .int .i64 5, .int .i64 1000])] (cP (fun v L' => ∃ q_ m_ c_ Y_ q2_ m2_ c2_ X_, v = .tuple #[.agg #[.int .i64 0, .slice q_ m_ c_, .slice q2_ m2_ c2_], .int .i64 0] ∧ L' = List.take 0 ([]) ++ (Y_ ++ (X_ ++ List.drop 0 ([]))) ∧ SlO 88 Y_ q_ m_ c_ ([⟨1, 1500⟩] : List Tim) ∧ SlO 47 X_ q2_ m2_ c2_ ([⟨2, 5, 1000⟩] : List Alm)) Try.call21 (fun w hw => by have := start_t 0 none 0 0 [] none 0 0 [] (⟨2, 5, 1000⟩ : Alm) 1500 w Sv.nil rfl (by omega) Sv.nil rfl (by omega); rw [vkw1] at this; exact this.mono fun e w' ⟨q_, m_, c_, Y_, q2_, m2_, c2_, X_, he, h1, h2, hb, hY⟩ => ⟨_, _, he, ⟨q_, m_, c_, Y_, q2_, m2_, c2_, X_, rfl, rfl, h1, h2⟩, hw.joinT hb hY 0⟩) ?_)))))))
 rintro v3 L3 ⟨q3, m3, c3, Y3, p3, k3, d3, Yx3, rfl, rfl, hO3, hP3⟩
 have hm3 := hO3.len
 have hn3 := hP3.len
 simp only [List.length_cons, List.length_nil] at hm3
 simp only [List.length_cons, List.length_nil] at hn3
 refine mo0 6 [(7, .go (owns 0 0 3))] [] (fun γ4 => [(1, .pointer (some ⟨γ4 0, 0, none⟩)), (2, .int .i64 0)]) (fun γ4 L => bx (γ4 0) (#[.int .i64 0, .slice q3 m3 c3, .slice p3 k3 d3]) 27 :: L) (fun γ4 => on_ (ds_ (sq_ (ao_ (qo0 1 [(0, .go (owns 0 0 3))] [2] [(16, .agg #[.int .i64 0, .slice q3 m3 c3, .slice p3 k3 d3])] (cP (fun v L' => ∃ q_ m_ c_ Y_ q2_ m2_ c2_ X_ q3_ m3_ c3_ Z_, v = .tuple #[.agg #[.int .i64 5000, .slice q_ m_ c_, .slice q2_ m2_ c2_], .slice q3_ m3_ c3_, .int .i64 0] ∧ L' = List.take 1 (bx (γ4 0) (#[.int .i64 0, .slice q3 m3 c3, .slice p3 k3 d3]) 27 :: (Y3 ++ (Yx3 ++ []))) ++ (Y_ ++ (X_ ++ (Z_ ++ List.drop 1 (bx (γ4 0) (#[.int .i64 0, .slice q3 m3 c3, .slice p3 k3 d3]) 27 :: (Y3 ++ (Yx3 ++ [])))))) ∧ SlO 88 Y_ q_ m_ c_ ([⟨1, 5500⟩] : List Tim) ∧ SlO 47 X_ q2_ m2_ c2_ ([⟨2, 5, 1000⟩] : List Alm) ∧ SlO 44 Z_ q3_ m3_ c3_ ([⟨2, 5, 1500, 3⟩] : List Rng)) Try.call10 (fun w hw => by have := apass_t 0 q3 m3 c3 (([⟨1, 1500⟩] : List Tim)) p3 k3 d3 (([⟨2, 5, 1000⟩] : List Alm)) 5000 w (hO3.atN (A := [_]) hw) hO3.len (by omega) (hP3.atN (A := (_ :: Y3)) hw) hP3.len (by omega); rw [vkw4, vkw5] at this; exact this.mono fun e w' ⟨q_, m_, c_, Y_, q2_, m2_, c2_, X_, q3_, m3_, c3_, Z_, he, h1, h2, h3, hb, hY⟩ => ⟨_, _, he, ⟨q_, m_, c_, Y_, q2_, m2_, c2_, X_, q3_, m3_, c3_, Z_, rfl, rfl, h1, h2, h3⟩, hw.joinZ hb hY 1⟩) ?_))))))
 rintro v6 L6 ⟨q6, m6, c6, Y6, p6, k6, d6, Yx6, pz6, kz6, dz6, Yz6, rfl, rfl, hO6, hP6, hZ6⟩
 have hm6 := hO6.len
 have hn6 := hP6.len
 have hz6 := hZ6.len
 simp only [List.length_cons, List.length_nil] at hm6
 simp only [List.length_cons, List.length_nil] at hn6
 simp only [List.length_cons, List.length_nil] at hz6
 refine mo0 8 [(7, .go (owns 0 0 3))] [2] (fun γ7 => [(3, .pointer (some ⟨γ7 0, 0, none⟩)), (4, .slice pz6 kz6 dz6), (5, .int .i64 0)]) (fun γ7 L => bx (γ7 0) (#[.int .i64 5000, .slice q6 m6 c6, .slice p6 k6 d6]) 27 :: L) (fun γ7 => on_ (ds_ (sq_ (ao_ (qo0 1 [(0, .go (owns 0 0 3))] [2, 4, 5] [(22, .agg #[.int .i64 5000, .slice q6 m6 c6, .slice p6 k6 d6])] (cD (.tuple #[.agg #[.int .i64 ((⟨2, 5, 1000⟩ : Alm).vcpu), .int .i64 ((⟨2, 5, 1000⟩ : Alm).port), .int .i64 ((⟨2, 5, 1000⟩ : Alm).every)], .int .i64 5500, .bool true]) Try.call14 (fun w hw => by have := aget_t 5000 q6 m6 c6 (([⟨1, 5500⟩] : List Tim)) p6 k6 d6 (([⟨2, 5, 1000⟩] : List Alm)) 2 w (hO6.atN (A := [_, _]) hw) hO6.len (by omega) (hP6.atN (A := (_ :: _ :: Y6)) hw) hP6.len (by omega) (by omega) (by omega); rw [vkw6] at this; exact this) (mo0 8 [(7, .go (owns 0 0 3))] [2, 4, 5] (fun γ9 => [(7, .int .i64 5500), (8, .bool true)]) (fun γ9 L => bx (γ9 0) (#[.int .i64 ((⟨2, 5, 1000⟩ : Alm).vcpu), .int .i64 ((⟨2, 5, 1000⟩ : Alm).port), .int .i64 ((⟨2, 5, 1000⟩ : Alm).every)]) 47 :: L) (fun γ9 => on_ (ds_ (sq_ (ao_ (qo0 14 [] [4] [(40, .bool true)] ?_))))))))))))
 by_cases q12 : ((kz6 : Nat) : Int) = (1 : Int)
 ·
  refine Ops.pick [[bx (γ9 0) (#[.int .i64 ((⟨2, 5, 1000⟩ : Alm).vcpu), .int .i64 ((⟨2, 5, 1000⟩ : Alm).port), .int .i64 ((⟨2, 5, 1000⟩ : Alm).every)]) 47], [bx (γ7 0) (#[.int .i64 5000, .slice q6 m6 c6, .slice p6 k6 d6]) 27], [bx (γ4 0) (#[.int .i64 0, .slice q3 m3 c3, .slice p3 k3 d3]) 27], Y6, Yx6, Yz6, Y3, Yx3] [0, 1, 2, 5, 3, 4, 6, 7] [] (bx (γ9 0) (#[.int .i64 ((⟨2, 5, 1000⟩ : Alm).vcpu), .int .i64 ((⟨2, 5, 1000⟩ : Alm).port), .int .i64 ((⟨2, 5, 1000⟩ : Alm).every)]) 47 :: bx (γ7 0) (#[.int .i64 5000, .slice q6 m6 c6, .slice p6 k6 d6]) 27 :: bx (γ4 0) (#[.int .i64 0, .slice q3 m3 c3, .slice p3 k3 d3]) 27 :: (Yz6 ++ (Y6 ++ (Yx6 ++ (Y3 ++ (Yx3 ++ [])))))) (by kernel_rfl) rfl rfl ?_
  have hln14 := hZ6.len
  obtain ⟨g14, cs14, rfl, rfl, hOw14⟩ := hZ6.rowOf (i := 0) (by omega)
  refine qo 12 [(16, .yes), (20, .at g14 0 0), (21, .go (ownps 3 (0 + 0 * 4) [.int .i64 ((⟨2, 5, 1500, 3⟩ : Rng).vcpu), .int .i64 ((⟨2, 5, 1500, 3⟩ : Rng).port), .int .i64 ((⟨2, 5, 1500, 3⟩ : Rng).at_), .int .i64 ((⟨2, 5, 1500, 3⟩ : Rng).missed)])), (23, .eqs true)] [] [(0, .bool true)] ([((kz6 : Nat) : Int) = (1 : Int)] ++ ([(some ⟨g14, 0, none⟩ : Option Addr) = some ⟨g14, 0, none⟩, 0 = ((0 : Nat) : Int), 0 < kz6] ++ (acellsP cs14 (0 + 0 * 4) [.int .i64 ((⟨2, 5, 1500, 3⟩ : Rng).vcpu), .int .i64 ((⟨2, 5, 1500, 3⟩ : Rng).port), .int .i64 ((⟨2, 5, 1500, 3⟩ : Rng).at_), .int .i64 ((⟨2, 5, 1500, 3⟩ : Rng).missed)] ++ ([EqRun Try.prog .eql 44 (.tmp 48) (.tmp 49) (.agg #[.int .i64 ((⟨2, 5, 1500, 3⟩ : Rng).vcpu), .int .i64 ((⟨2, 5, 1500, 3⟩ : Rng).port), .int .i64 ((⟨2, 5, 1500, 3⟩ : Rng).at_), .int .i64 ((⟨2, 5, 1500, 3⟩ : Rng).missed)]) (.agg #[.int .i64 2, .int .i64 5, .int .i64 1500, .int .i64 3]) true])))) (alA (al1 q12) (alA (al2 rfl (al2 rfl (al1 (by omega)))) (alA (rda_pre ((hOw14.rdx hZ6.len (by rfl))) _ rfl) (al1 (rng_eq_t (a := (⟨2, 5, 1500, 3⟩ : Rng)) (b := (⟨2, 5, 1500, 3⟩ : Rng)) rfl))))) (on_ (ds_ (rt ([]) (.bool true) ?_)))
  exact fun w' hw => ⟨rfl, hw.below⟩
 ·
  refine qo 12 [(16, .no)] [] [(0, .bool false)] ([¬ (((kz6 : Nat) : Int) = (1 : Int))]) (al1 q12) (on_ (ds_ (rt ([]) (.bool false) ?_)))
  exfalso; first | omega | (simp only [List.length_nil] at *; omega)

set_option maxRecDepth 100000 in
theorem copy_t (now : Int) (p : Option Addr) (n cap : Nat) (ts : List Tim) (pa : Option Addr) (na ca : Nat) (rs : List Alm) (w : World)
 (hts : Sv w p ts) (hn : n = ts.length) (hb : n ≤ 1000)
 (hrs : Sv w pa rs) (hna : na = rs.length) (hba : na ≤ 1000)
 : Calls Try.prog 26 #[.agg #[.int .i64 now, .slice p n cap, .slice pa na ca]] w fun e w' => ∃ q m c Y q2 m2 c2 X, e = .returned (.agg #[.int .i64 now, .slice q m c, .slice q2 m2 c2]) ∧ SlO 88 Y q m c ts ∧ SlO 47 X q2 m2 c2 rs ∧ Below w.heap.size w w' ∧ Hs w (Y ++ X) w' := by
 refine enter (Hs.start w) Try.func26 rfl Try.ntmps26 rfl (sq_ (ma0 [] [] (fun γ1 => [(1, .pointer (some ⟨γ1 0, 0, none⟩)), (2, .pointer (some ⟨γ1 1, 0, none⟩))]) (fun γ1 L => bx (γ1 1) (#[.int .i64 0, .slice none 0 0, .slice none 0 0]) 27 :: bx (γ1 0) (#[.int .i64 now, .slice p n cap, .slice pa na ca]) 27 :: L) (fun γ1 => ds_ (sq_ ?_))))
 refine at_any (by kernel_rfl) ?_
 refine tk (m := 11) [1, 2, 6] [] [1, 2] [(5, .pointer (some ⟨γ1 0, 1, none⟩)), (9, .pointer (some ⟨γ1 0, 2, none⟩))] ([]) #[false, true, true, false, false, false, true, false, false, false, false, false, false, false] al0 ?_
 refine any_cutX (V := (List Ob) × (List Ob) × (Nat) × (Nat) × (Option Addr) × (Option Addr) × (Nat → Nat) × (Nat → Nat)) (fun ⟨Y165, Y85, cap165, cap85, p165, p85, γ105, γ5⟩ => SlO 47 Y165 p165 (0 + na) cap165 ([] ++ rs) ∧ SlO 88 Y85 p85 (0 + n) cap85 ([] ++ ts)) 0 #[true, true, true, true, true, true, true, true, true, true, true, true, true, true] (fun ⟨Y165, Y85, cap165, cap85, p165, p85, γ105, γ5⟩ => [(1, .pointer (some ⟨γ1 0, 0, none⟩)), (2, .pointer (some ⟨γ1 1, 0, none⟩))]) (fun ⟨Y165, Y85, cap165, cap85, p165, p85, γ105, γ5⟩ => bx (γ1 1) (#[.int .i64 0, .slice none 0 0, .slice none 0 0]) 27 :: bx (γ1 0) (#[.int .i64 now, .slice p85 (0 + n) cap85, .slice p165 (0 + na) cap165]) 27 :: (Y165 ++ (Y85 ++ []))) ?_ (fun hmx22 => ?_)
 rotate_left
 ·
  refine any_cutX (V := (List Ob) × (List Ob) × (Nat) × (Nat) × (Option Addr) × (Option Addr) × (Nat → Nat) × (Nat → Nat)) (fun ⟨Y165, Y85, cap165, cap85, p165, p85, γ105, γ5⟩ => SlO 47 Y165 p165 (0 + na) cap165 ([] ++ rs) ∧ SlO 88 Y85 p85 (0 + n) cap85 ([] ++ ts)) 1 #[true, true, true, true, true, true, true, true, true, true, true, true, true, false] (fun ⟨Y165, Y85, cap165, cap85, p165, p85, γ105, γ5⟩ => [(1, .pointer (some ⟨γ1 0, 0, none⟩)), (2, .pointer (some ⟨γ1 1, 0, none⟩)), (11, .slice p165 (0 + na) cap165), (14, .pointer (some ⟨γ1 0, 2, none⟩))]) (fun ⟨Y165, Y85, cap165, cap85, p165, p85, γ105, γ5⟩ => bx (γ1 1) (#[.int .i64 0, .slice none 0 0, .slice none 0 0]) 27 :: bx (γ1 0) (#[.int .i64 now, .slice p85 (0 + n) cap85, .slice pa na ca]) 27 :: (Y165 ++ (Y85 ++ []))) ?_ (fun hmx21 => ?_)
  ·
   rintro ⟨Y165, Y85, cap165, cap85, p165, p85, γ105, γ5⟩ ⟨hO165, hO85⟩
   refine a1 13 rfl ?_
   refine mo0 1 [(13, .go (owns 1 2 1))] [1, 2] (fun _ => []) (fun _ L => (L.set 1 (bx (γ1 0) (#[.int .i64 now, .slice p85 (0 + n) cap85, .slice p165 (0 + na) cap165]) 27))) (fun _ => ?_)
   refine od_ ?_
   exact wk (hmx22 (Y165, Y85, cap165, cap85, p165, p85, γ105, γ5) ⟨hO165, hO85⟩) [1, 2] [[_], [_], _, _] [0, 1, 2, 3] rfl rfl
  refine any_cutX (V := (List Ob) × (List Ob) × (Nat) × (Nat) × (Option Addr) × (Option Addr) × (Nat → Nat) × (Nat → Nat)) (fun ⟨Y165, Y85, cap165, cap85, p165, p85, γ105, γ5⟩ => SlO 47 Y165 p165 (0 + na) cap165 ([] ++ rs) ∧ SlO 88 Y85 p85 (0 + n) cap85 ([] ++ ts)) 3 #[true, true, true, true, true, true, true, true, true, true, true, false, false, false] (fun ⟨Y165, Y85, cap165, cap85, p165, p85, γ105, γ5⟩ => [(1, .pointer (some ⟨γ1 0, 0, none⟩)), (2, .pointer (some ⟨γ1 1, 0, none⟩)), (7, .slice p85 (0 + n) cap85), (11, .slice p165 (0 + na) cap165), (13, .pointer (some ⟨γ1 0, 1, none⟩))]) (fun ⟨Y165, Y85, cap165, cap85, p165, p85, γ105, γ5⟩ => bx (γ1 1) (#[.int .i64 0, .slice none 0 0, .slice none 0 0]) 27 :: bx (γ1 0) (#[.int .i64 now, .slice p n cap, .slice pa na ca]) 27 :: (Y165 ++ (Y85 ++ []))) ?_ (fun hmx20 => ?_)
  ·
   rintro ⟨Y165, Y85, cap165, cap85, p165, p85, γ105, γ5⟩ ⟨hO165, hO85⟩
   refine a1 11 rfl ?_
   refine mo0 1 [(11, .go (owns 1 1 1))] [1, 2, 11] (fun _ => []) (fun _ L => (L.set 1 (bx (γ1 0) (#[.int .i64 now, .slice p85 (0 + n) cap85, .slice pa na ca]) 27))) (fun _ => ?_)
   refine od_ ?_
   refine tk (m := 1) [12] [] [1, 2, 11] [(14, .pointer (some ⟨γ1 0, 2, none⟩))] ([]) #[true, true, true, true, true, true, true, true, true, true, true, true, true, false] al0 ?_
   exact wk (hmx21 (Y165, Y85, cap165, cap85, p165, p85, γ105, γ5) ⟨hO165, hO85⟩) [1, 2, 11, 14] [[_], [_], _, _] [0, 1, 2, 3] rfl rfl
  refine any_cutX (V := (List Ob) × (Nat) × (Option Addr) × (Nat → Nat) × (Nat → Nat)) (fun ⟨Y85, cap85, p85, γ105, γ5⟩ => SlO 88 Y85 p85 (0 + n) cap85 ([] ++ ts)) 4 #[true, true, true, true, true, true, true, true, false, true, true, false, false, false] (fun ⟨Y85, cap85, p85, γ105, γ5⟩ => [(1, .pointer (some ⟨γ1 0, 0, none⟩)), (2, .pointer (some ⟨γ1 1, 0, none⟩)), (7, .slice p85 (0 + n) cap85), (8, .slice (some ⟨γ105 0, 0, none⟩) 0 0), (10, .slice pa na ca), (13, .pointer (some ⟨γ1 0, 1, none⟩))]) (fun ⟨Y85, cap85, p85, γ105, γ5⟩ => bx (γ105 0) (#[]) 47 :: bx (γ1 1) (#[.int .i64 0, .slice none 0 0, .slice none 0 0]) 27 :: bx (γ1 0) (#[.int .i64 now, .slice p n cap, .slice pa na ca]) 27 :: (Y85 ++ [])) ?_ (fun hmx19 => ?_)
  ·
   rintro ⟨Y85, cap85, p85, γ105, γ5⟩ hO85
   refine a1 8 rfl ?_
   refine ops_append (α := Alm) [bx (γ1 1) (#[.int .i64 0, .slice none 0 0, .slice none 0 0]) 27, bx (γ1 0) (#[.int .i64 now, .slice p n cap, .slice pa na ca]) 27] ([bx (γ105 0) (#[]) 47]) ((Y85 ++ [])) (mvE rfl) rfl (by kernel_rfl) (by kernel_rfl) (p := (some ⟨γ105 0, 0, none⟩)) (n := 0) (cap := 0) (m := na) (yv := .slice pa na ca) (by kernel_rfl) (by kernel_rfl) (T := 47) (by_ := 24) (by kernel_rfl) ([]) rs (SlO.lit (by rfl) (by rfl) (by simp [maxLen])) (fun w hw => src_svn Try.underlying25 (hrs.kept hw.below) hna) hna (by have hmx : maxLen = 9223372036854775807 := rfl; omega) (by have hmx : maxLen = 9223372036854775807 := rfl; omega) (fun Y165 p165 cap165 hO165 => ?_)
   refine od_ ?_
   exact wk (hmx20 (Y165, Y85, cap165, cap85, p165, p85, γ105, γ5) ⟨hO165, hO85⟩) [1, 2, 7, 11, 13] [[_], [_], _, _] [0, 1, 2, 3] rfl rfl
  refine any_cutX (V := (List Ob) × (Nat) × (Option Addr) × (Nat → Nat)) (fun ⟨Y85, cap85, p85, γ5⟩ => SlO 88 Y85 p85 (0 + n) cap85 ([] ++ ts)) 5 #[true, true, true, true, true, false, true, true, false, true, true, false, false, false] (fun ⟨Y85, cap85, p85, γ5⟩ => [(1, .pointer (some ⟨γ1 0, 0, none⟩)), (2, .pointer (some ⟨γ1 1, 0, none⟩)), (7, .slice p85 (0 + n) cap85), (10, .slice pa na ca), (13, .pointer (some ⟨γ1 0, 1, none⟩))]) (fun ⟨Y85, cap85, p85, γ5⟩ => bx (γ1 1) (#[.int .i64 0, .slice none 0 0, .slice none 0 0]) 27 :: bx (γ1 0) (#[.int .i64 now, .slice p n cap, .slice pa na ca]) 27 :: (Y85 ++ [])) ?_ (fun hmx18 => ?_)
  ·
   rintro ⟨Y85, cap85, p85, γ5⟩ hO85
   refine a1 5 rfl ?_
   refine mo0 1 [] [1, 2, 7, 10, 13] (fun γ105 => [(8, .slice (some ⟨γ105 0, 0, none⟩) 0 0)]) (fun γ105 L => bx (γ105 0) (#[]) 47 :: L) (fun γ105 => ?_)
   refine od_ ?_
   exact wk (hmx19 (Y85, cap85, p85, γ105, γ5) hO85) [1, 2, 7, 8, 10, 13] [[_], [_], [_], _] [0, 1, 2, 3] rfl rfl
  refine any_cutX (V := (Nat → Nat) × (Nat → Nat)) (fun ⟨γ105, γ5⟩ => True) 7 #[true, true, true, true, false, true, true, true, false, false, false, false, false, false] (fun ⟨γ105, γ5⟩ => [(1, .pointer (some ⟨γ1 0, 0, none⟩)), (2, .pointer (some ⟨γ1 1, 0, none⟩)), (3, .slice (some ⟨γ5 0, 0, none⟩) 0 0), (6, .slice p n cap), (8, .slice (some ⟨γ105 0, 0, none⟩) 0 0), (10, .slice pa na ca)]) (fun ⟨γ105, γ5⟩ => [bx (γ105 0) (#[]) 47, bx (γ5 0) (#[]) 88, bx (γ1 1) (#[.int .i64 0, .slice none 0 0, .slice none 0 0]) 27, bx (γ1 0) (#[.int .i64 now, .slice p n cap, .slice pa na ca]) 27]) ?_ (fun hmx17 => ?_)
  ·
   rintro ⟨γ105, γ5⟩ _
   refine a1 4 rfl ?_
   refine Ops.pick [[bx (γ105 0) (#[]) 47], [bx (γ5 0) (#[]) 88], [bx (γ1 1) (#[.int .i64 0, .slice none 0 0, .slice none 0 0]) 27], [bx (γ1 0) (#[.int .i64 now, .slice p n cap, .slice pa na ca]) 27]] [1, 0, 2, 3] [] ([bx (γ5 0) (#[]) 88, bx (γ105 0) (#[]) 47, bx (γ1 1) (#[.int .i64 0, .slice none 0 0, .slice none 0 0]) 27, bx (γ1 0) (#[.int .i64 now, .slice p n cap, .slice pa na ca]) 27]) (by kernel_rfl) rfl rfl (ops_append (α := Tim) [bx (γ105 0) (#[]) 47, bx (γ1 1) (#[.int .i64 0, .slice none 0 0, .slice none 0 0]) 27, bx (γ1 0) (#[.int .i64 now, .slice p n cap, .slice pa na ca]) 27] ([bx (γ5 0) (#[]) 88]) ([]) (mvE rfl) rfl (by kernel_rfl) (by kernel_rfl) (p := (some ⟨γ5 0, 0, none⟩)) (n := 0) (cap := 0) (m := n) (yv := .slice p n cap) (by kernel_rfl) (by kernel_rfl) (T := 88) (by_ := 16) (by kernel_rfl) ([]) ts (SlO.lit (by rfl) (by rfl) (by simp [maxLen])) (fun w hw => src_svn Try.underlying22 (hts.kept hw.below) hn) hn (by have hmx : maxLen = 9223372036854775807 := rfl; omega) (by have hmx : maxLen = 9223372036854775807 := rfl; omega) (fun Y85 p85 cap85 hO85 => ?_))
   refine od_ ?_
   refine tk (m := 4) [9, 10] [] [1, 2, 7, 8, 10] [(13, .pointer (some ⟨γ1 0, 1, none⟩))] ([]) #[true, true, true, true, true, true, true, true, false, true, true, false, false, false] al0 ?_
   exact wk (hmx19 (Y85, cap85, p85, γ105, γ5) hO85) [1, 2, 7, 8, 10, 13] [[_], [_], [_], _] [0, 1, 2, 3] rfl rfl
  refine any_cutX (V := (List Ob) × (Nat) × (Option Addr) × (Nat → Nat) × (Nat → Nat)) (fun ⟨Y85, cap85, p85, γ105, γ5⟩ => SlO 88 Y85 p85 (0 + n) cap85 ([] ++ ts)) 7 #[true, true, true, true, true, true, true, false, false, false, false, false, false, false] (fun ⟨Y85, cap85, p85, γ105, γ5⟩ => [(1, .pointer (some ⟨γ1 0, 0, none⟩)), (2, .pointer (some ⟨γ1 1, 0, none⟩)), (7, .slice p85 (0 + n) cap85), (8, .slice (some ⟨γ105 0, 0, none⟩) 0 0), (9, .pointer (some ⟨γ1 0, 2, none⟩))]) (fun ⟨Y85, cap85, p85, γ105, γ5⟩ => bx (γ105 0) (#[]) 47 :: bx (γ1 1) (#[.int .i64 0, .slice none 0 0, .slice none 0 0]) 27 :: bx (γ1 0) (#[.int .i64 now, .slice p n cap, .slice pa na ca]) 27 :: (Y85 ++ [])) ?_ (fun hmx16 => ?_)
  ·
   rintro ⟨Y85, cap85, p85, γ105, γ5⟩ hO85
   refine a1 7 rfl ?_
   refine qo0 1 [(7, .go (owns 2 2 1))] [1, 2, 7, 8] [(10, .slice pa na ca)] ?_
   refine od_ ?_
   refine tk (m := 4) [9, 10] [] [1, 2, 7, 8, 10] [(13, .pointer (some ⟨γ1 0, 1, none⟩))] ([]) #[true, true, true, true, true, true, true, true, false, true, true, false, false, false] al0 ?_
   exact wk (hmx19 (Y85, cap85, p85, γ105, γ5) hO85) [1, 2, 7, 8, 10, 13] [[_], [_], [_], _] [0, 1, 2, 3] rfl rfl
  refine any_cutX (V := (Nat → Nat)) (fun γ105 => True) 8 #[false, true, true, true, false, true, true, true, false, false, false, false, false, false] (fun γ105 => [(1, .pointer (some ⟨γ1 0, 0, none⟩)), (2, .pointer (some ⟨γ1 1, 0, none⟩)), (6, .slice p n cap), (8, .slice (some ⟨γ105 0, 0, none⟩) 0 0), (10, .slice pa na ca)]) (fun γ105 => [bx (γ105 0) (#[]) 47, bx (γ1 1) (#[.int .i64 0, .slice none 0 0, .slice none 0 0]) 27, bx (γ1 0) (#[.int .i64 now, .slice p n cap, .slice pa na ca]) 27]) ?_ (fun hmx15 => ?_)
  ·
   rintro γ105 _
   refine a1 0 rfl ?_
   refine mo0 1 [] [1, 2, 6, 8, 10] (fun γ5 => [(3, .slice (some ⟨γ5 0, 0, none⟩) 0 0)]) (fun γ5 L => bx (γ5 0) (#[]) 88 :: L) (fun γ5 => ?_)
   refine od_ ?_
   exact wk (hmx17 (γ105, γ5) trivial) [1, 2, 3, 6, 8, 10] [[_], [_], [_], [_]] [1, 0, 2, 3] rfl rfl
  refine any_cutX (V := (Nat → Nat) × (Nat → Nat)) (fun ⟨γ105, γ5⟩ => True) 8 #[true, true, true, false, false, true, true, true, false, false, false, false, false, false] (fun ⟨γ105, γ5⟩ => [(1, .pointer (some ⟨γ1 0, 0, none⟩)), (2, .pointer (some ⟨γ1 1, 0, none⟩)), (3, .slice (some ⟨γ5 0, 0, none⟩) 0 0), (5, .pointer (some ⟨γ1 0, 1, none⟩)), (8, .slice (some ⟨γ105 0, 0, none⟩) 0 0), (10, .slice pa na ca)]) (fun ⟨γ105, γ5⟩ => [bx (γ105 0) (#[]) 47, bx (γ5 0) (#[]) 88, bx (γ1 1) (#[.int .i64 0, .slice none 0 0, .slice none 0 0]) 27, bx (γ1 0) (#[.int .i64 now, .slice p n cap, .slice pa na ca]) 27]) ?_ (fun hmx14 => ?_)
  ·
   rintro ⟨γ105, γ5⟩ _
   refine a1 3 rfl ?_
   refine qo0 1 [(3, .go (owns 3 1 1))] [1, 2, 3, 8, 10] [(6, .slice p n cap)] ?_
   refine od_ ?_
   exact wk (hmx17 (γ105, γ5) trivial) [1, 2, 3, 6, 8, 10] [[_], [_], [_], [_]] [0, 1, 2, 3] rfl rfl
  refine any_cutX (V := (Nat → Nat)) (fun γ5 => True) 8 #[true, true, true, true, false, false, true, true, false, false, false, false, false, false] (fun γ5 => [(1, .pointer (some ⟨γ1 0, 0, none⟩)), (2, .pointer (some ⟨γ1 1, 0, none⟩)), (3, .slice (some ⟨γ5 0, 0, none⟩) 0 0), (6, .slice p n cap), (10, .slice pa na ca)]) (fun γ5 => [bx (γ5 0) (#[]) 88, bx (γ1 1) (#[.int .i64 0, .slice none 0 0, .slice none 0 0]) 27, bx (γ1 0) (#[.int .i64 now, .slice p n cap, .slice pa na ca]) 27]) ?_ (fun hmx13 => ?_)
  ·
   rintro γ5 _
   refine any_fork [4, 5] (by kernel_rfl) (by simp) (each_cons _ rfl ?_ (each_cons _ rfl ?_ (each_nil)))
   ·
    refine ops_append (α := Tim) [bx (γ1 1) (#[.int .i64 0, .slice none 0 0, .slice none 0 0]) 27, bx (γ1 0) (#[.int .i64 now, .slice p n cap, .slice pa na ca]) 27] ([bx (γ5 0) (#[]) 88]) ([]) (mvE rfl) rfl (by kernel_rfl) (by kernel_rfl) (p := (some ⟨γ5 0, 0, none⟩)) (n := 0) (cap := 0) (m := n) (yv := .slice p n cap) (by kernel_rfl) (by kernel_rfl) (T := 88) (by_ := 16) (by kernel_rfl) ([]) ts (SlO.lit (by rfl) (by rfl) (by simp [maxLen])) (fun w hw => src_svn Try.underlying22 (hts.kept hw.below) hn) hn (by have hmx : maxLen = 9223372036854775807 := rfl; omega) (by have hmx : maxLen = 9223372036854775807 := rfl; omega) (fun Y85 p85 cap85 hO85 => ?_)
    refine od_ ?_
    refine tk (m := 5) [9, 10] [] [1, 2, 7, 10] [(13, .pointer (some ⟨γ1 0, 1, none⟩))] ([]) #[true, true, true, true, true, false, true, true, false, true, true, false, false, false] al0 ?_
    exact wk (hmx18 (Y85, cap85, p85, γ5) hO85) [1, 2, 7, 10, 13] [[_], [_], _] [0, 1, 2] rfl rfl
   ·
    refine mo0 1 [] [1, 2, 3, 6, 10] (fun γ105 => [(8, .slice (some ⟨γ105 0, 0, none⟩) 0 0)]) (fun γ105 L => bx (γ105 0) (#[]) 47 :: L) (fun γ105 => ?_)
    refine od_ ?_
    exact wk (hmx17 (γ105, γ5) trivial) [1, 2, 3, 6, 8, 10] [[_], [_], [_], [_]] [0, 1, 2, 3] rfl rfl
  refine any_cutX (V := (Nat → Nat) × (Nat → Nat)) (fun ⟨γ105, γ5⟩ => True) 8 #[true, true, true, true, false, true, true, false, false, false, false, false, false, false] (fun ⟨γ105, γ5⟩ => [(1, .pointer (some ⟨γ1 0, 0, none⟩)), (2, .pointer (some ⟨γ1 1, 0, none⟩)), (3, .slice (some ⟨γ5 0, 0, none⟩) 0 0), (6, .slice p n cap), (8, .slice (some ⟨γ105 0, 0, none⟩) 0 0), (9, .pointer (some ⟨γ1 0, 2, none⟩))]) (fun ⟨γ105, γ5⟩ => [bx (γ105 0) (#[]) 47, bx (γ5 0) (#[]) 88, bx (γ1 1) (#[.int .i64 0, .slice none 0 0, .slice none 0 0]) 27, bx (γ1 0) (#[.int .i64 now, .slice p n cap, .slice pa na ca]) 27]) ?_ (fun hmx12 => ?_)
  ·
   rintro ⟨γ105, γ5⟩ _
   refine any_fork [4, 7] (by kernel_rfl) (by simp) (each_cons _ rfl ?_ (each_cons _ rfl ?_ (each_nil)))
   ·
    refine Ops.pick [[bx (γ105 0) (#[]) 47], [bx (γ5 0) (#[]) 88], [bx (γ1 1) (#[.int .i64 0, .slice none 0 0, .slice none 0 0]) 27], [bx (γ1 0) (#[.int .i64 now, .slice p n cap, .slice pa na ca]) 27]] [1, 0, 2, 3] [] ([bx (γ5 0) (#[]) 88, bx (γ105 0) (#[]) 47, bx (γ1 1) (#[.int .i64 0, .slice none 0 0, .slice none 0 0]) 27, bx (γ1 0) (#[.int .i64 now, .slice p n cap, .slice pa na ca]) 27]) (by kernel_rfl) rfl rfl (ops_append (α := Tim) [bx (γ105 0) (#[]) 47, bx (γ1 1) (#[.int .i64 0, .slice none 0 0, .slice none 0 0]) 27, bx (γ1 0) (#[.int .i64 now, .slice p n cap, .slice pa na ca]) 27] ([bx (γ5 0) (#[]) 88]) ([]) (mvE rfl) rfl (by kernel_rfl) (by kernel_rfl) (p := (some ⟨γ5 0, 0, none⟩)) (n := 0) (cap := 0) (m := n) (yv := .slice p n cap) (by kernel_rfl) (by kernel_rfl) (T := 88) (by_ := 16) (by kernel_rfl) ([]) ts (SlO.lit (by rfl) (by rfl) (by simp [maxLen])) (fun w hw => src_svn Try.underlying22 (hts.kept hw.below) hn) hn (by have hmx : maxLen = 9223372036854775807 := rfl; omega) (by have hmx : maxLen = 9223372036854775807 := rfl; omega) (fun Y85 p85 cap85 hO85 => ?_))
    refine od_ ?_
    exact wk (hmx16 (Y85, cap85, p85, γ105, γ5) hO85) [1, 2, 7, 8, 9] [[_], [_], [_], _] [0, 1, 2, 3] rfl rfl
   ·
    refine qo0 1 [(7, .go (owns 3 2 1))] [1, 2, 3, 6, 8] [(10, .slice pa na ca)] ?_
    refine od_ ?_
    exact wk (hmx17 (γ105, γ5) trivial) [1, 2, 3, 6, 8, 10] [[_], [_], [_], [_]] [0, 1, 2, 3] rfl rfl
  refine any_cutX (V := (List Ob) × (Nat) × (Option Addr) × (Nat → Nat)) (fun ⟨Y85, cap85, p85, γ5⟩ => SlO 88 Y85 p85 (0 + n) cap85 ([] ++ ts)) 8 #[true, true, true, true, true, false, true, false, false, false, false, false, false, false] (fun ⟨Y85, cap85, p85, γ5⟩ => [(1, .pointer (some ⟨γ1 0, 0, none⟩)), (2, .pointer (some ⟨γ1 1, 0, none⟩)), (7, .slice p85 (0 + n) cap85), (9, .pointer (some ⟨γ1 0, 2, none⟩))]) (fun ⟨Y85, cap85, p85, γ5⟩ => bx (γ1 1) (#[.int .i64 0, .slice none 0 0, .slice none 0 0]) 27 :: bx (γ1 0) (#[.int .i64 now, .slice p n cap, .slice pa na ca]) 27 :: (Y85 ++ [])) ?_ (fun hmx11 => ?_)
  ·
   rintro ⟨Y85, cap85, p85, γ5⟩ hO85
   refine any_fork [5, 7] (by kernel_rfl) (by simp) (each_cons _ rfl ?_ (each_cons _ rfl ?_ (each_nil)))
   ·
    refine mo0 1 [] [1, 2, 7, 9] (fun γ105 => [(8, .slice (some ⟨γ105 0, 0, none⟩) 0 0)]) (fun γ105 L => bx (γ105 0) (#[]) 47 :: L) (fun γ105 => ?_)
    refine od_ ?_
    exact wk (hmx16 (Y85, cap85, p85, γ105, γ5) hO85) [1, 2, 7, 8, 9] [[_], [_], [_], _] [0, 1, 2, 3] rfl rfl
   ·
    refine qo0 1 [(7, .go (owns 1 2 1))] [1, 2, 7] [(10, .slice pa na ca)] ?_
    refine od_ ?_
    refine tk (m := 5) [9, 10] [] [1, 2, 7, 10] [(13, .pointer (some ⟨γ1 0, 1, none⟩))] ([]) #[true, true, true, true, true, false, true, true, false, true, true, false, false, false] al0 ?_
    exact wk (hmx18 (Y85, cap85, p85, γ5) hO85) [1, 2, 7, 10, 13] [[_], [_], _] [0, 1, 2] rfl rfl
  refine any_cutX (V := (Nat → Nat)) (fun γ105 => True) 9 #[false, true, true, false, false, true, true, true, false, false, false, false, false, false] (fun γ105 => [(1, .pointer (some ⟨γ1 0, 0, none⟩)), (2, .pointer (some ⟨γ1 1, 0, none⟩)), (5, .pointer (some ⟨γ1 0, 1, none⟩)), (8, .slice (some ⟨γ105 0, 0, none⟩) 0 0), (10, .slice pa na ca)]) (fun γ105 => [bx (γ105 0) (#[]) 47, bx (γ1 1) (#[.int .i64 0, .slice none 0 0, .slice none 0 0]) 27, bx (γ1 0) (#[.int .i64 now, .slice p n cap, .slice pa na ca]) 27]) ?_ (fun hmx10 => ?_)
  ·
   rintro γ105 _
   refine any_fork [0, 3] (by kernel_rfl) (by simp) (each_cons _ rfl ?_ (each_cons _ rfl ?_ (each_nil)))
   ·
    refine mo0 1 [] [1, 2, 5, 8, 10] (fun γ5 => [(3, .slice (some ⟨γ5 0, 0, none⟩) 0 0)]) (fun γ5 L => bx (γ5 0) (#[]) 88 :: L) (fun γ5 => ?_)
    refine od_ ?_
    exact wk (hmx14 (γ105, γ5) trivial) [1, 2, 3, 5, 8, 10] [[_], [_], [_], [_]] [1, 0, 2, 3] rfl rfl
   ·
    refine qo0 1 [(3, .go (owns 2 1 1))] [1, 2, 8, 10] [(6, .slice p n cap)] ?_
    refine od_ ?_
    exact wk (hmx15 γ105 trivial) [1, 2, 6, 8, 10] [[_], [_], [_]] [0, 1, 2] rfl rfl
  refine any_cutX (V := Unit) (fun _ => True) 9 #[false, true, true, true, false, false, true, true, false, false, false, false, false, false] (fun _ => [(1, .pointer (some ⟨γ1 0, 0, none⟩)), (2, .pointer (some ⟨γ1 1, 0, none⟩)), (6, .slice p n cap), (10, .slice pa na ca)]) (fun _ => [bx (γ1 1) (#[.int .i64 0, .slice none 0 0, .slice none 0 0]) 27, bx (γ1 0) (#[.int .i64 now, .slice p n cap, .slice pa na ca]) 27]) ?_ (fun hmx9 => ?_)
  ·
   rintro _ _
   refine any_fork [0, 5] (by kernel_rfl) (by simp) (each_cons _ rfl ?_ (each_cons _ rfl ?_ (each_nil)))
   ·
    refine mo0 1 [] [1, 2, 6, 10] (fun γ5 => [(3, .slice (some ⟨γ5 0, 0, none⟩) 0 0)]) (fun γ5 L => bx (γ5 0) (#[]) 88 :: L) (fun γ5 => ?_)
    refine od_ ?_
    exact wk (hmx13 γ5 trivial) [1, 2, 3, 6, 10] [[_], [_], [_]] [0, 1, 2] rfl rfl
   ·
    refine mo0 1 [] [1, 2, 6, 10] (fun γ105 => [(8, .slice (some ⟨γ105 0, 0, none⟩) 0 0)]) (fun γ105 L => bx (γ105 0) (#[]) 47 :: L) (fun γ105 => ?_)
    refine od_ ?_
    exact wk (hmx15 γ105 trivial) [1, 2, 6, 8, 10] [[_], [_], [_]] [0, 1, 2] rfl rfl
  refine any_cutX (V := (Nat → Nat)) (fun γ105 => True) 9 #[false, true, true, true, false, true, true, false, false, false, false, false, false, false] (fun γ105 => [(1, .pointer (some ⟨γ1 0, 0, none⟩)), (2, .pointer (some ⟨γ1 1, 0, none⟩)), (6, .slice p n cap), (8, .slice (some ⟨γ105 0, 0, none⟩) 0 0), (9, .pointer (some ⟨γ1 0, 2, none⟩))]) (fun γ105 => [bx (γ105 0) (#[]) 47, bx (γ1 1) (#[.int .i64 0, .slice none 0 0, .slice none 0 0]) 27, bx (γ1 0) (#[.int .i64 now, .slice p n cap, .slice pa na ca]) 27]) ?_ (fun hmx8 => ?_)
  ·
   rintro γ105 _
   refine any_fork [0, 7] (by kernel_rfl) (by simp) (each_cons _ rfl ?_ (each_cons _ rfl ?_ (each_nil)))
   ·
    refine mo0 1 [] [1, 2, 6, 8, 9] (fun γ5 => [(3, .slice (some ⟨γ5 0, 0, none⟩) 0 0)]) (fun γ5 L => bx (γ5 0) (#[]) 88 :: L) (fun γ5 => ?_)
    refine od_ ?_
    exact wk (hmx12 (γ105, γ5) trivial) [1, 2, 3, 6, 8, 9] [[_], [_], [_], [_]] [1, 0, 2, 3] rfl rfl
   ·
    refine qo0 1 [(7, .go (owns 2 2 1))] [1, 2, 6, 8] [(10, .slice pa na ca)] ?_
    refine od_ ?_
    exact wk (hmx15 γ105 trivial) [1, 2, 6, 8, 10] [[_], [_], [_]] [0, 1, 2] rfl rfl
  refine any_cutX (V := (Nat → Nat)) (fun γ5 => True) 9 #[true, true, true, false, false, false, true, true, false, false, false, false, false, false] (fun γ5 => [(1, .pointer (some ⟨γ1 0, 0, none⟩)), (2, .pointer (some ⟨γ1 1, 0, none⟩)), (3, .slice (some ⟨γ5 0, 0, none⟩) 0 0), (5, .pointer (some ⟨γ1 0, 1, none⟩)), (10, .slice pa na ca)]) (fun γ5 => [bx (γ5 0) (#[]) 88, bx (γ1 1) (#[.int .i64 0, .slice none 0 0, .slice none 0 0]) 27, bx (γ1 0) (#[.int .i64 now, .slice p n cap, .slice pa na ca]) 27]) ?_ (fun hmx7 => ?_)
  ·
   rintro γ5 _
   refine any_fork [3, 5] (by kernel_rfl) (by simp) (each_cons _ rfl ?_ (each_cons _ rfl ?_ (each_nil)))
   ·
    refine qo0 1 [(3, .go (owns 2 1 1))] [1, 2, 3, 10] [(6, .slice p n cap)] ?_
    refine od_ ?_
    exact wk (hmx13 γ5 trivial) [1, 2, 3, 6, 10] [[_], [_], [_]] [0, 1, 2] rfl rfl
   ·
    refine mo0 1 [] [1, 2, 3, 5, 10] (fun γ105 => [(8, .slice (some ⟨γ105 0, 0, none⟩) 0 0)]) (fun γ105 L => bx (γ105 0) (#[]) 47 :: L) (fun γ105 => ?_)
    refine od_ ?_
    exact wk (hmx14 (γ105, γ5) trivial) [1, 2, 3, 5, 8, 10] [[_], [_], [_], [_]] [0, 1, 2, 3] rfl rfl
  refine any_cutX (V := (Nat → Nat) × (Nat → Nat)) (fun ⟨γ105, γ5⟩ => True) 9 #[true, true, true, false, false, true, true, false, false, false, false, false, false, false] (fun ⟨γ105, γ5⟩ => [(1, .pointer (some ⟨γ1 0, 0, none⟩)), (2, .pointer (some ⟨γ1 1, 0, none⟩)), (3, .slice (some ⟨γ5 0, 0, none⟩) 0 0), (5, .pointer (some ⟨γ1 0, 1, none⟩)), (8, .slice (some ⟨γ105 0, 0, none⟩) 0 0), (9, .pointer (some ⟨γ1 0, 2, none⟩))]) (fun ⟨γ105, γ5⟩ => [bx (γ105 0) (#[]) 47, bx (γ5 0) (#[]) 88, bx (γ1 1) (#[.int .i64 0, .slice none 0 0, .slice none 0 0]) 27, bx (γ1 0) (#[.int .i64 now, .slice p n cap, .slice pa na ca]) 27]) ?_ (fun hmx6 => ?_)
  ·
   rintro ⟨γ105, γ5⟩ _
   refine any_fork [3, 7] (by kernel_rfl) (by simp) (each_cons _ rfl ?_ (each_cons _ rfl ?_ (each_nil)))
   ·
    refine qo0 1 [(3, .go (owns 3 1 1))] [1, 2, 3, 8, 9] [(6, .slice p n cap)] ?_
    refine od_ ?_
    exact wk (hmx12 (γ105, γ5) trivial) [1, 2, 3, 6, 8, 9] [[_], [_], [_], [_]] [0, 1, 2, 3] rfl rfl
   ·
    refine qo0 1 [(7, .go (owns 3 2 1))] [1, 2, 3, 5, 8] [(10, .slice pa na ca)] ?_
    refine od_ ?_
    exact wk (hmx14 (γ105, γ5) trivial) [1, 2, 3, 5, 8, 10] [[_], [_], [_], [_]] [0, 1, 2, 3] rfl rfl
  refine any_cutX (V := (Nat → Nat)) (fun γ5 => True) 9 #[true, true, true, true, false, false, true, false, false, false, false, false, false, false] (fun γ5 => [(1, .pointer (some ⟨γ1 0, 0, none⟩)), (2, .pointer (some ⟨γ1 1, 0, none⟩)), (3, .slice (some ⟨γ5 0, 0, none⟩) 0 0), (6, .slice p n cap), (9, .pointer (some ⟨γ1 0, 2, none⟩))]) (fun γ5 => [bx (γ5 0) (#[]) 88, bx (γ1 1) (#[.int .i64 0, .slice none 0 0, .slice none 0 0]) 27, bx (γ1 0) (#[.int .i64 now, .slice p n cap, .slice pa na ca]) 27]) ?_ (fun hmx5 => ?_)
  ·
   rintro γ5 _
   refine any_fork [4, 5, 7] (by kernel_rfl) (by simp) (each_cons _ rfl ?_ (each_cons _ rfl ?_ (each_cons _ rfl ?_ (each_nil))))
   ·
    refine ops_append (α := Tim) [bx (γ1 1) (#[.int .i64 0, .slice none 0 0, .slice none 0 0]) 27, bx (γ1 0) (#[.int .i64 now, .slice p n cap, .slice pa na ca]) 27] ([bx (γ5 0) (#[]) 88]) ([]) (mvE rfl) rfl (by kernel_rfl) (by kernel_rfl) (p := (some ⟨γ5 0, 0, none⟩)) (n := 0) (cap := 0) (m := n) (yv := .slice p n cap) (by kernel_rfl) (by kernel_rfl) (T := 88) (by_ := 16) (by kernel_rfl) ([]) ts (SlO.lit (by rfl) (by rfl) (by simp [maxLen])) (fun w hw => src_svn Try.underlying22 (hts.kept hw.below) hn) hn (by have hmx : maxLen = 9223372036854775807 := rfl; omega) (by have hmx : maxLen = 9223372036854775807 := rfl; omega) (fun Y85 p85 cap85 hO85 => ?_)
    refine od_ ?_
    exact wk (hmx11 (Y85, cap85, p85, γ5) hO85) [1, 2, 7, 9] [[_], [_], _] [0, 1, 2] rfl rfl
   ·
    refine mo0 1 [] [1, 2, 3, 6, 9] (fun γ105 => [(8, .slice (some ⟨γ105 0, 0, none⟩) 0 0)]) (fun γ105 L => bx (γ105 0) (#[]) 47 :: L) (fun γ105 => ?_)
    refine od_ ?_
    exact wk (hmx12 (γ105, γ5) trivial) [1, 2, 3, 6, 8, 9] [[_], [_], [_], [_]] [0, 1, 2, 3] rfl rfl
   ·
    refine qo0 1 [(7, .go (owns 2 2 1))] [1, 2, 3, 6] [(10, .slice pa na ca)] ?_
    refine od_ ?_
    exact wk (hmx13 γ5 trivial) [1, 2, 3, 6, 10] [[_], [_], [_]] [0, 1, 2] rfl rfl
  refine any_cutX (V := Unit) (fun _ => True) 10 #[false, true, true, false, false, false, true, true, false, false, false, false, false, false] (fun _ => [(1, .pointer (some ⟨γ1 0, 0, none⟩)), (2, .pointer (some ⟨γ1 1, 0, none⟩)), (5, .pointer (some ⟨γ1 0, 1, none⟩)), (10, .slice pa na ca)]) (fun _ => [bx (γ1 1) (#[.int .i64 0, .slice none 0 0, .slice none 0 0]) 27, bx (γ1 0) (#[.int .i64 now, .slice p n cap, .slice pa na ca]) 27]) ?_ (fun hmx4 => ?_)
  ·
   rintro _ _
   refine any_fork [0, 3, 5] (by kernel_rfl) (by simp) (each_cons _ rfl ?_ (each_cons _ rfl ?_ (each_cons _ rfl ?_ (each_nil))))
   ·
    refine mo0 1 [] [1, 2, 5, 10] (fun γ5 => [(3, .slice (some ⟨γ5 0, 0, none⟩) 0 0)]) (fun γ5 L => bx (γ5 0) (#[]) 88 :: L) (fun γ5 => ?_)
    refine od_ ?_
    exact wk (hmx7 γ5 trivial) [1, 2, 3, 5, 10] [[_], [_], [_]] [0, 1, 2] rfl rfl
   ·
    refine qo0 1 [(3, .go (owns 1 1 1))] [1, 2, 10] [(6, .slice p n cap)] ?_
    refine od_ ?_
    exact wk (hmx9 () trivial) [1, 2, 6, 10] [[_], [_]] [0, 1] rfl rfl
   ·
    refine mo0 1 [] [1, 2, 5, 10] (fun γ105 => [(8, .slice (some ⟨γ105 0, 0, none⟩) 0 0)]) (fun γ105 L => bx (γ105 0) (#[]) 47 :: L) (fun γ105 => ?_)
    refine od_ ?_
    exact wk (hmx10 γ105 trivial) [1, 2, 5, 8, 10] [[_], [_], [_]] [0, 1, 2] rfl rfl
  refine any_cutX (V := (Nat → Nat)) (fun γ105 => True) 10 #[false, true, true, false, false, true, true, false, false, false, false, false, false, false] (fun γ105 => [(1, .pointer (some ⟨γ1 0, 0, none⟩)), (2, .pointer (some ⟨γ1 1, 0, none⟩)), (5, .pointer (some ⟨γ1 0, 1, none⟩)), (8, .slice (some ⟨γ105 0, 0, none⟩) 0 0), (9, .pointer (some ⟨γ1 0, 2, none⟩))]) (fun γ105 => [bx (γ105 0) (#[]) 47, bx (γ1 1) (#[.int .i64 0, .slice none 0 0, .slice none 0 0]) 27, bx (γ1 0) (#[.int .i64 now, .slice p n cap, .slice pa na ca]) 27]) ?_ (fun hmx3 => ?_)
  ·
   rintro γ105 _
   refine any_fork [0, 3, 7] (by kernel_rfl) (by simp) (each_cons _ rfl ?_ (each_cons _ rfl ?_ (each_cons _ rfl ?_ (each_nil))))
   ·
    refine mo0 1 [] [1, 2, 5, 8, 9] (fun γ5 => [(3, .slice (some ⟨γ5 0, 0, none⟩) 0 0)]) (fun γ5 L => bx (γ5 0) (#[]) 88 :: L) (fun γ5 => ?_)
    refine od_ ?_
    exact wk (hmx6 (γ105, γ5) trivial) [1, 2, 3, 5, 8, 9] [[_], [_], [_], [_]] [1, 0, 2, 3] rfl rfl
   ·
    refine qo0 1 [(3, .go (owns 2 1 1))] [1, 2, 8, 9] [(6, .slice p n cap)] ?_
    refine od_ ?_
    exact wk (hmx8 γ105 trivial) [1, 2, 6, 8, 9] [[_], [_], [_]] [0, 1, 2] rfl rfl
   ·
    refine qo0 1 [(7, .go (owns 2 2 1))] [1, 2, 5, 8] [(10, .slice pa na ca)] ?_
    refine od_ ?_
    exact wk (hmx10 γ105 trivial) [1, 2, 5, 8, 10] [[_], [_], [_]] [0, 1, 2] rfl rfl
  refine any_cutX (V := Unit) (fun _ => True) 10 #[false, true, true, true, false, false, true, false, false, false, false, false, false, false] (fun _ => [(1, .pointer (some ⟨γ1 0, 0, none⟩)), (2, .pointer (some ⟨γ1 1, 0, none⟩)), (6, .slice p n cap), (9, .pointer (some ⟨γ1 0, 2, none⟩))]) (fun _ => [bx (γ1 1) (#[.int .i64 0, .slice none 0 0, .slice none 0 0]) 27, bx (γ1 0) (#[.int .i64 now, .slice p n cap, .slice pa na ca]) 27]) ?_ (fun hmx2 => ?_)
  ·
   rintro _ _
   refine any_fork [0, 5, 7] (by kernel_rfl) (by simp) (each_cons _ rfl ?_ (each_cons _ rfl ?_ (each_cons _ rfl ?_ (each_nil))))
   ·
    refine mo0 1 [] [1, 2, 6, 9] (fun γ5 => [(3, .slice (some ⟨γ5 0, 0, none⟩) 0 0)]) (fun γ5 L => bx (γ5 0) (#[]) 88 :: L) (fun γ5 => ?_)
    refine od_ ?_
    exact wk (hmx5 γ5 trivial) [1, 2, 3, 6, 9] [[_], [_], [_]] [0, 1, 2] rfl rfl
   ·
    refine mo0 1 [] [1, 2, 6, 9] (fun γ105 => [(8, .slice (some ⟨γ105 0, 0, none⟩) 0 0)]) (fun γ105 L => bx (γ105 0) (#[]) 47 :: L) (fun γ105 => ?_)
    refine od_ ?_
    exact wk (hmx8 γ105 trivial) [1, 2, 6, 8, 9] [[_], [_], [_]] [0, 1, 2] rfl rfl
   ·
    refine qo0 1 [(7, .go (owns 1 2 1))] [1, 2, 6] [(10, .slice pa na ca)] ?_
    refine od_ ?_
    exact wk (hmx9 () trivial) [1, 2, 6, 10] [[_], [_]] [0, 1] rfl rfl
  refine any_cutX (V := (Nat → Nat)) (fun γ5 => True) 10 #[true, true, true, false, false, false, true, false, false, false, false, false, false, false] (fun γ5 => [(1, .pointer (some ⟨γ1 0, 0, none⟩)), (2, .pointer (some ⟨γ1 1, 0, none⟩)), (3, .slice (some ⟨γ5 0, 0, none⟩) 0 0), (5, .pointer (some ⟨γ1 0, 1, none⟩)), (9, .pointer (some ⟨γ1 0, 2, none⟩))]) (fun γ5 => [bx (γ5 0) (#[]) 88, bx (γ1 1) (#[.int .i64 0, .slice none 0 0, .slice none 0 0]) 27, bx (γ1 0) (#[.int .i64 now, .slice p n cap, .slice pa na ca]) 27]) ?_ (fun hmx1 => ?_)
  ·
   rintro γ5 _
   refine any_fork [3, 5, 7] (by kernel_rfl) (by simp) (each_cons _ rfl ?_ (each_cons _ rfl ?_ (each_cons _ rfl ?_ (each_nil))))
   ·
    refine qo0 1 [(3, .go (owns 2 1 1))] [1, 2, 3, 9] [(6, .slice p n cap)] ?_
    refine od_ ?_
    exact wk (hmx5 γ5 trivial) [1, 2, 3, 6, 9] [[_], [_], [_]] [0, 1, 2] rfl rfl
   ·
    refine mo0 1 [] [1, 2, 3, 5, 9] (fun γ105 => [(8, .slice (some ⟨γ105 0, 0, none⟩) 0 0)]) (fun γ105 L => bx (γ105 0) (#[]) 47 :: L) (fun γ105 => ?_)
    refine od_ ?_
    exact wk (hmx6 (γ105, γ5) trivial) [1, 2, 3, 5, 8, 9] [[_], [_], [_], [_]] [0, 1, 2, 3] rfl rfl
   ·
    refine qo0 1 [(7, .go (owns 2 2 1))] [1, 2, 3, 5] [(10, .slice pa na ca)] ?_
    refine od_ ?_
    exact wk (hmx7 γ5 trivial) [1, 2, 3, 5, 10] [[_], [_], [_]] [0, 1, 2] rfl rfl
  refine any_fork [0, 3, 5, 7] (by kernel_rfl) (by simp) (each_cons _ rfl ?_ (each_cons _ rfl ?_ (each_cons _ rfl ?_ (each_cons _ rfl ?_ (each_nil)))))
  ·
   refine mo0 1 [] [1, 2, 5, 9] (fun γ5 => [(3, .slice (some ⟨γ5 0, 0, none⟩) 0 0)]) (fun γ5 L => bx (γ5 0) (#[]) 88 :: L) (fun γ5 => ?_)
   refine od_ ?_
   exact wk (hmx1 γ5 trivial) [1, 2, 3, 5, 9] [[_], [_], [_]] [0, 1, 2] rfl rfl
  ·
   refine qo0 1 [(3, .go (owns 1 1 1))] [1, 2, 9] [(6, .slice p n cap)] ?_
   refine od_ ?_
   exact wk (hmx2 () trivial) [1, 2, 6, 9] [[_], [_]] [0, 1] rfl rfl
  ·
   refine mo0 1 [] [1, 2, 5, 9] (fun γ105 => [(8, .slice (some ⟨γ105 0, 0, none⟩) 0 0)]) (fun γ105 L => bx (γ105 0) (#[]) 47 :: L) (fun γ105 => ?_)
   refine od_ ?_
   exact wk (hmx3 γ105 trivial) [1, 2, 5, 8, 9] [[_], [_], [_]] [0, 1, 2] rfl rfl
  ·
   refine qo0 1 [(7, .go (owns 1 2 1))] [1, 2, 5] [(10, .slice pa na ca)] ?_
   refine od_ ?_
   exact wk (hmx4 () trivial) [1, 2, 5, 10] [[_], [_]] [0, 1] rfl rfl
 rintro ⟨Y165, Y85, cap165, cap85, p165, p85, γ105, γ5⟩ ⟨hO165, hO85⟩
 refine any_nil (by kernel_rfl) ?_
 refine ds_ (sq_ (ma0 [(0, .go (owns 1 0 3)), (1, .go (owns 0 0 3))] [2] (fun _ => []) (fun _ L => (L.set 0 (bx (γ1 1) (#[.int .i64 now, .slice p85 (0 + n) cap85, .slice p165 (0 + na) cap165]) 27))) (fun _ => ds_ (rt (owns 0 0 3) (.agg #[.int .i64 now, .slice p85 (0 + n) cap85, .slice p165 (0 + na) cap165]) ?_))))
 exact fun w' hw => ⟨_, _, _, _, _, _, _, _, rfl, by simpa using hO85, by simpa using hO165, hw.below, two_tails (Hs.pick [[bx (γ1 1) (#[.int .i64 now, .slice p85 (0 + n) cap85, .slice p165 (0 + na) cap165]) 27], [bx (γ1 0) (#[.int .i64 now, .slice p85 (0 + n) cap85, .slice p165 (0 + na) cap165]) 27], Y165, Y85] [3, 2] [0, 1] (by kernel_rfl) hw)⟩

set_option maxRecDepth 100000 in
theorem short_t (now : Int) (p : Option Addr) (n cap : Nat) (ts : List Tim) (pa : Option Addr) (na ca : Nat) (rs : List Alm) (w : World)
 (hts : Sv w p ts) (hn : n = ts.length) (hcp : n ≤ cap) (hbg : cap ≤ 9223372036854775807)
 (hrs : Sv w pa rs) (hna : na = rs.length) (hca : na ≤ ca) (hbga : ca ≤ 9223372036854775807)
 : Calls Try.prog 8 #[.agg #[.int .i64 now, .slice p n cap, .slice pa na ca]] w fun e w' => ∃ q m c Y q2 m2 c2 X, e = .returned (.agg #[.int .i64 now, .slice q m c, .slice q2 m2 c2]) ∧ SlO 88 Y q m c (shT ts) ∧ SlO 47 X q2 m2 c2 (shR rs) ∧ Below w.heap.size w w' ∧ Hs w (Y ++ X) w' := by
 refine enter (Hs.start w) Try.func8 rfl Try.ntmps8 rfl (sq_ (ma0 [] [] (fun γ1 => [(1, .pointer (some ⟨γ1 0, 0, none⟩)), (2, .pointer (some ⟨γ1 1, 0, none⟩))]) (fun γ1 L => bx (γ1 1) (#[.int .i64 0, .slice none 0 0, .slice none 0 0]) 27 :: bx (γ1 0) (#[.int .i64 now, .slice p n cap, .slice pa na ca]) 27 :: L) (fun γ1 => ds_ (sq_ ?_))))
 refine at_any (by kernel_rfl) ?_
 refine tk (m := 15) [0, 1, 3, 4, 9, 11] [] [1, 2] [(4, .pointer (some ⟨γ1 0, 1, none⟩)), (7, .pointer (some ⟨γ1 0, 1, none⟩)), (12, .pointer (some ⟨γ1 0, 2, none⟩)), (14, .pointer (some ⟨γ1 0, 2, none⟩))] ([]) #[true, true, false, true, true, false, false, false, false, true, false, true, false, false, false, false, false, false, false, false, false] al0 ?_
 refine any_cutX (V := Unit) (fun _ => True) 0 #[true, true, true, true, true, true, true, true, true, true, true, true, true, true, true, true, true, true, true, true, true] (fun _ => [(1, .pointer (some ⟨γ1 0, 0, none⟩)), (2, .pointer (some ⟨γ1 1, 0, none⟩))]) (fun _ => [bx (γ1 1) (#[.int .i64 0, .slice none 0 0, .slice none 0 0]) 27, bx (γ1 0) (#[.int .i64 now, .slice p ((min n 33)) cap, .slice pa ((min na 17)) ca]) 27]) ?_ (fun hmx27 => ?_)
 rotate_left
 ·
  refine any_cutX (V := Unit) (fun _ => True) 1 #[true, true, true, true, true, true, true, true, true, true, true, true, true, true, true, true, true, true, true, true, false] (fun _ => [(1, .pointer (some ⟨γ1 0, 0, none⟩)), (2, .pointer (some ⟨γ1 1, 0, none⟩)), (18, .slice pa ((min na 17)) ca), (21, .pointer (some ⟨γ1 0, 2, none⟩))]) (fun _ => [bx (γ1 1) (#[.int .i64 0, .slice none 0 0, .slice none 0 0]) 27, bx (γ1 0) (#[.int .i64 now, .slice p ((min n 33)) cap, .slice pa na ca]) 27]) ?_ (fun hmx26 => ?_)
  ·
   rintro _ _
   refine a1 20 rfl ?_
   refine mo0 1 [(20, .go (owns 1 2 1))] [1, 2] (fun _ => []) (fun _ L => (L.set 1 (bx (γ1 0) (#[.int .i64 now, .slice p ((min n 33)) cap, .slice pa ((min na 17)) ca]) 27))) (fun _ => ?_)
   refine od_ ?_
   exact wk (hmx27 () trivial) [1, 2] [[_], [_]] [0, 1] rfl rfl
  refine any_cutX (V := Unit) (fun _ => True) 3 #[true, true, true, true, true, true, true, true, true, true, true, true, true, true, true, false, true, true, true, false, false] (fun _ => [(1, .pointer (some ⟨γ1 0, 0, none⟩)), (2, .pointer (some ⟨γ1 1, 0, none⟩)), (13, .slice pa na ca), (17, .int .i64 ((if (17 : Int) < ((na : Nat) : Int) then 17 else (na : Nat))))]) (fun _ => [bx (γ1 1) (#[.int .i64 0, .slice none 0 0, .slice none 0 0]) 27, bx (γ1 0) (#[.int .i64 now, .slice p ((min n 33)) cap, .slice pa na ca]) 27]) ?_ (fun hmx25 => ?_)
  ·
   rintro _ _
   refine a1 15 rfl ?_
   refine qo 1 [(15, .sl (.slice pa ((min na 17)) ca))] [1, 2] [(18, .slice pa ((min na 17)) ca)] ([SlRun Try.prog 25 (.slice pa na ca) none (some (.int .i64 ((if (17 : Int) < ((na : Nat) : Int) then 17 else (na : Nat))))) none (.slice pa ((min na 17)) ca)]) (al1 (by rw [min_if17]; exact slE_hi (P := Try.prog) (h := (min na 17)) (T := 25) (e := 47) (k := 3) (by_ := 24) (by kernel_rfl) (by omega))) ?_
   refine od_ ?_
   refine tk (m := 1) [19] [] [1, 2, 18] [(21, .pointer (some ⟨γ1 0, 2, none⟩))] ([]) #[true, true, true, true, true, true, true, true, true, true, true, true, true, true, true, true, true, true, true, true, false] al0 ?_
   exact wk (hmx26 () trivial) [1, 2, 18, 21] [[_], [_]] [0, 1] rfl rfl
  refine any_cutX (V := Unit) (fun _ => True) 3 #[true, true, true, true, true, true, true, true, true, true, true, true, true, true, true, true, true, true, false, false, false] (fun _ => [(1, .pointer (some ⟨γ1 0, 0, none⟩)), (2, .pointer (some ⟨γ1 1, 0, none⟩)), (11, .slice p ((min n 33)) cap), (18, .slice pa ((min na 17)) ca), (20, .pointer (some ⟨γ1 0, 1, none⟩))]) (fun _ => [bx (γ1 1) (#[.int .i64 0, .slice none 0 0, .slice none 0 0]) 27, bx (γ1 0) (#[.int .i64 now, .slice p n cap, .slice pa na ca]) 27]) ?_ (fun hmx24 => ?_)
  ·
   rintro _ _
   refine a1 18 rfl ?_
   refine mo0 1 [(18, .go (owns 1 1 1))] [1, 2, 18] (fun _ => []) (fun _ L => (L.set 1 (bx (γ1 0) (#[.int .i64 now, .slice p ((min n 33)) cap, .slice pa na ca]) 27))) (fun _ => ?_)
   refine od_ ?_
   refine tk (m := 1) [19] [] [1, 2, 18] [(21, .pointer (some ⟨γ1 0, 2, none⟩))] ([]) #[true, true, true, true, true, true, true, true, true, true, true, true, true, true, true, true, true, true, true, true, false] al0 ?_
   exact wk (hmx26 () trivial) [1, 2, 18, 21] [[_], [_]] [0, 1] rfl rfl
  refine any_cutX (V := Unit) (fun _ => True) 4 #[true, true, true, true, true, true, true, true, true, true, true, true, true, true, true, false, true, true, false, false, false] (fun _ => [(1, .pointer (some ⟨γ1 0, 0, none⟩)), (2, .pointer (some ⟨γ1 1, 0, none⟩)), (11, .slice p ((min n 33)) cap), (13, .slice pa na ca), (17, .int .i64 ((if (17 : Int) < ((na : Nat) : Int) then 17 else (na : Nat)))), (20, .pointer (some ⟨γ1 0, 1, none⟩))]) (fun _ => [bx (γ1 1) (#[.int .i64 0, .slice none 0 0, .slice none 0 0]) 27, bx (γ1 0) (#[.int .i64 now, .slice p n cap, .slice pa na ca]) 27]) ?_ (fun hmx23 => ?_)
  ·
   rintro _ _
   refine any_fork [15, 18] (by kernel_rfl) (by simp) (each_cons _ rfl ?_ (each_cons _ rfl ?_ (each_nil)))
   ·
    refine qo 1 [(15, .sl (.slice pa ((min na 17)) ca))] [1, 2, 11, 20] [(18, .slice pa ((min na 17)) ca)] ([SlRun Try.prog 25 (.slice pa na ca) none (some (.int .i64 ((if (17 : Int) < ((na : Nat) : Int) then 17 else (na : Nat))))) none (.slice pa ((min na 17)) ca)]) (al1 (by rw [min_if17]; exact slE_hi (P := Try.prog) (h := (min na 17)) (T := 25) (e := 47) (k := 3) (by_ := 24) (by kernel_rfl) (by omega))) ?_
    refine od_ ?_
    exact wk (hmx24 () trivial) [1, 2, 11, 18, 20] [[_], [_]] [0, 1] rfl rfl
   ·
    refine mo0 1 [(18, .go (owns 1 1 1))] [1, 2, 13, 17] (fun _ => []) (fun _ L => (L.set 1 (bx (γ1 0) (#[.int .i64 now, .slice p ((min n 33)) cap, .slice pa na ca]) 27))) (fun _ => ?_)
    refine od_ ?_
    exact wk (hmx25 () trivial) [1, 2, 13, 17] [[_], [_]] [0, 1] rfl rfl
  refine any_cutX (V := Unit) (fun _ => True) 6 #[true, true, true, true, true, true, true, true, false, true, true, true, true, true, true, true, false, false, false, false, false] (fun _ => [(1, .pointer (some ⟨γ1 0, 0, none⟩)), (2, .pointer (some ⟨γ1 1, 0, none⟩)), (5, .slice p n cap), (10, .int .i64 ((if (33 : Int) < ((n : Nat) : Int) then 33 else (n : Nat)))), (18, .slice pa ((min na 17)) ca)]) (fun _ => [bx (γ1 1) (#[.int .i64 0, .slice none 0 0, .slice none 0 0]) 27, bx (γ1 0) (#[.int .i64 now, .slice p n cap, .slice pa na ca]) 27]) ?_ (fun hmx22 => ?_)
  ·
   rintro _ _
   refine a1 8 rfl ?_
   refine qo 1 [(8, .sl (.slice p ((min n 33)) cap))] [1, 2, 18] [(11, .slice p ((min n 33)) cap)] ([SlRun Try.prog 22 (.slice p n cap) none (some (.int .i64 ((if (33 : Int) < ((n : Nat) : Int) then 33 else (n : Nat))))) none (.slice p ((min n 33)) cap)]) (al1 (by rw [min_if33]; exact slE_hi (P := Try.prog) (h := (min n 33)) (T := 22) (e := 88) (k := 2) (by_ := 16) (by kernel_rfl) (by omega))) ?_
   refine od_ ?_
   refine tk (m := 3) [16, 17] [] [1, 2, 11, 18] [(20, .pointer (some ⟨γ1 0, 1, none⟩))] ([]) #[true, true, true, true, true, true, true, true, true, true, true, true, true, true, true, true, true, true, false, false, false] al0 ?_
   exact wk (hmx24 () trivial) [1, 2, 11, 18, 20] [[_], [_]] [0, 1] rfl rfl
  refine any_cutX (V := Unit) (fun _ => True) 7 #[true, true, false, true, true, true, true, true, false, true, true, true, true, true, true, true, false, false, false, false, false] (fun _ => [(1, .pointer (some ⟨γ1 0, 0, none⟩)), (2, .pointer (some ⟨γ1 1, 0, none⟩)), (4, .pointer (some ⟨γ1 0, 1, none⟩)), (10, .int .i64 ((if (33 : Int) < ((n : Nat) : Int) then 33 else (n : Nat)))), (18, .slice pa ((min na 17)) ca)]) (fun _ => [bx (γ1 1) (#[.int .i64 0, .slice none 0 0, .slice none 0 0]) 27, bx (γ1 0) (#[.int .i64 now, .slice p n cap, .slice pa na ca]) 27]) ?_ (fun hmx21 => ?_)
  ·
   rintro _ _
   refine a1 2 rfl ?_
   refine qo0 1 [(2, .go (owns 1 1 1))] [1, 2, 10, 18] [(5, .slice p n cap)] ?_
   refine od_ ?_
   exact wk (hmx22 () trivial) [1, 2, 5, 10, 18] [[_], [_]] [0, 1] rfl rfl
  refine any_cutX (V := Unit) (fun _ => True) 7 #[true, true, true, true, true, true, true, true, true, true, false, true, true, true, true, false, false, false, false, false, false] (fun _ => [(1, .pointer (some ⟨γ1 0, 0, none⟩)), (2, .pointer (some ⟨γ1 1, 0, none⟩)), (11, .slice p ((min n 33)) cap), (12, .pointer (some ⟨γ1 0, 2, none⟩)), (17, .int .i64 ((if (17 : Int) < ((na : Nat) : Int) then 17 else (na : Nat))))]) (fun _ => [bx (γ1 1) (#[.int .i64 0, .slice none 0 0, .slice none 0 0]) 27, bx (γ1 0) (#[.int .i64 now, .slice p n cap, .slice pa na ca]) 27]) ?_ (fun hmx20 => ?_)
  ·
   rintro _ _
   refine a1 10 rfl ?_
   refine qo0 1 [(10, .go (owns 1 2 1))] [1, 2, 11, 17] [(13, .slice pa na ca)] ?_
   refine od_ ?_
   refine tk (m := 4) [16, 17] [] [1, 2, 11, 13, 17] [(20, .pointer (some ⟨γ1 0, 1, none⟩))] ([]) #[true, true, true, true, true, true, true, true, true, true, true, true, true, true, true, false, true, true, false, false, false] al0 ?_
   exact wk (hmx23 () trivial) [1, 2, 11, 13, 17, 20] [[_], [_]] [0, 1] rfl rfl
  refine any_cutX (V := Unit) (fun _ => True) 7 #[true, true, true, true, true, true, true, true, false, true, true, true, true, true, true, false, false, false, false, false, false] (fun _ => [(1, .pointer (some ⟨γ1 0, 0, none⟩)), (2, .pointer (some ⟨γ1 1, 0, none⟩)), (5, .slice p n cap), (10, .int .i64 ((if (33 : Int) < ((n : Nat) : Int) then 33 else (n : Nat)))), (13, .slice pa na ca), (17, .int .i64 ((if (17 : Int) < ((na : Nat) : Int) then 17 else (na : Nat))))]) (fun _ => [bx (γ1 1) (#[.int .i64 0, .slice none 0 0, .slice none 0 0]) 27, bx (γ1 0) (#[.int .i64 now, .slice p n cap, .slice pa na ca]) 27]) ?_ (fun hmx19 => ?_)
  ·
   rintro _ _
   refine any_fork [8, 15] (by kernel_rfl) (by simp) (each_cons _ rfl ?_ (each_cons _ rfl ?_ (each_nil)))
   ·
    refine qo 1 [(8, .sl (.slice p ((min n 33)) cap))] [1, 2, 13, 17] [(11, .slice p ((min n 33)) cap)] ([SlRun Try.prog 22 (.slice p n cap) none (some (.int .i64 ((if (33 : Int) < ((n : Nat) : Int) then 33 else (n : Nat))))) none (.slice p ((min n 33)) cap)]) (al1 (by rw [min_if33]; exact slE_hi (P := Try.prog) (h := (min n 33)) (T := 22) (e := 88) (k := 2) (by_ := 16) (by kernel_rfl) (by omega))) ?_
    refine od_ ?_
    refine tk (m := 4) [16, 17] [] [1, 2, 11, 13, 17] [(20, .pointer (some ⟨γ1 0, 1, none⟩))] ([]) #[true, true, true, true, true, true, true, true, true, true, true, true, true, true, true, false, true, true, false, false, false] al0 ?_
    exact wk (hmx23 () trivial) [1, 2, 11, 13, 17, 20] [[_], [_]] [0, 1] rfl rfl
   ·
    refine qo 1 [(15, .sl (.slice pa ((min na 17)) ca))] [1, 2, 5, 10] [(18, .slice pa ((min na 17)) ca)] ([SlRun Try.prog 25 (.slice pa na ca) none (some (.int .i64 ((if (17 : Int) < ((na : Nat) : Int) then 17 else (na : Nat))))) none (.slice pa ((min na 17)) ca)]) (al1 (by rw [min_if17]; exact slE_hi (P := Try.prog) (h := (min na 17)) (T := 25) (e := 47) (k := 3) (by_ := 24) (by kernel_rfl) (by omega))) ?_
    refine od_ ?_
    exact wk (hmx22 () trivial) [1, 2, 5, 10, 18] [[_], [_]] [0, 1] rfl rfl
  refine any_cutX (V := Unit) (fun _ => True) 8 #[true, true, false, true, true, true, true, true, false, true, true, true, true, true, true, false, false, false, false, false, false] (fun _ => [(1, .pointer (some ⟨γ1 0, 0, none⟩)), (2, .pointer (some ⟨γ1 1, 0, none⟩)), (4, .pointer (some ⟨γ1 0, 1, none⟩)), (10, .int .i64 ((if (33 : Int) < ((n : Nat) : Int) then 33 else (n : Nat)))), (13, .slice pa na ca), (17, .int .i64 ((if (17 : Int) < ((na : Nat) : Int) then 17 else (na : Nat))))]) (fun _ => [bx (γ1 1) (#[.int .i64 0, .slice none 0 0, .slice none 0 0]) 27, bx (γ1 0) (#[.int .i64 now, .slice p n cap, .slice pa na ca]) 27]) ?_ (fun hmx18 => ?_)
  ·
   rintro _ _
   refine any_fork [2, 15] (by kernel_rfl) (by simp) (each_cons _ rfl ?_ (each_cons _ rfl ?_ (each_nil)))
   ·
    refine qo0 1 [(2, .go (owns 1 1 1))] [1, 2, 10, 13, 17] [(5, .slice p n cap)] ?_
    refine od_ ?_
    exact wk (hmx19 () trivial) [1, 2, 5, 10, 13, 17] [[_], [_]] [0, 1] rfl rfl
   ·
    refine qo 1 [(15, .sl (.slice pa ((min na 17)) ca))] [1, 2, 4, 10] [(18, .slice pa ((min na 17)) ca)] ([SlRun Try.prog 25 (.slice pa na ca) none (some (.int .i64 ((if (17 : Int) < ((na : Nat) : Int) then 17 else (na : Nat))))) none (.slice pa ((min na 17)) ca)]) (al1 (by rw [min_if17]; exact slE_hi (P := Try.prog) (h := (min na 17)) (T := 25) (e := 47) (k := 3) (by_ := 24) (by kernel_rfl) (by omega))) ?_
    refine od_ ?_
    exact wk (hmx21 () trivial) [1, 2, 4, 10, 18] [[_], [_]] [0, 1] rfl rfl
  refine any_cutX (V := Unit) (fun _ => True) 8 #[true, true, true, true, true, true, true, true, false, true, false, true, true, true, true, false, false, false, false, false, false] (fun _ => [(1, .pointer (some ⟨γ1 0, 0, none⟩)), (2, .pointer (some ⟨γ1 1, 0, none⟩)), (5, .slice p n cap), (10, .int .i64 ((if (33 : Int) < ((n : Nat) : Int) then 33 else (n : Nat)))), (12, .pointer (some ⟨γ1 0, 2, none⟩)), (17, .int .i64 ((if (17 : Int) < ((na : Nat) : Int) then 17 else (na : Nat))))]) (fun _ => [bx (γ1 1) (#[.int .i64 0, .slice none 0 0, .slice none 0 0]) 27, bx (γ1 0) (#[.int .i64 now, .slice p n cap, .slice pa na ca]) 27]) ?_ (fun hmx17 => ?_)
  ·
   rintro _ _
   refine any_fork [8, 10] (by kernel_rfl) (by simp) (each_cons _ rfl ?_ (each_cons _ rfl ?_ (each_nil)))
   ·
    refine qo 1 [(8, .sl (.slice p ((min n 33)) cap))] [1, 2, 12, 17] [(11, .slice p ((min n 33)) cap)] ([SlRun Try.prog 22 (.slice p n cap) none (some (.int .i64 ((if (33 : Int) < ((n : Nat) : Int) then 33 else (n : Nat))))) none (.slice p ((min n 33)) cap)]) (al1 (by rw [min_if33]; exact slE_hi (P := Try.prog) (h := (min n 33)) (T := 22) (e := 88) (k := 2) (by_ := 16) (by kernel_rfl) (by omega))) ?_
    refine od_ ?_
    exact wk (hmx20 () trivial) [1, 2, 11, 12, 17] [[_], [_]] [0, 1] rfl rfl
   ·
    refine qo0 1 [(10, .go (owns 1 2 1))] [1, 2, 5, 10, 17] [(13, .slice pa na ca)] ?_
    refine od_ ?_
    exact wk (hmx19 () trivial) [1, 2, 5, 10, 13, 17] [[_], [_]] [0, 1] rfl rfl
  refine any_cutX (V := Unit) (fun _ => True) 9 #[true, true, true, true, true, false, false, false, false, true, true, true, true, true, true, true, false, false, false, false, false] (fun _ => [(1, .pointer (some ⟨γ1 0, 0, none⟩)), (2, .pointer (some ⟨γ1 1, 0, none⟩)), (5, .slice p n cap), (7, .pointer (some ⟨γ1 0, 1, none⟩)), (18, .slice pa ((min na 17)) ca)]) (fun _ => [bx (γ1 1) (#[.int .i64 0, .slice none 0 0, .slice none 0 0]) 27, bx (γ1 0) (#[.int .i64 now, .slice p n cap, .slice pa na ca]) 27]) ?_ (fun hmx16 => ?_)
  ·
   rintro _ _
   refine a1 5 rfl ?_
   refine qo0 1 [(5, .go (owns 1 1 1))] [1, 2, 5, 18] [(8, .slice p n cap)] ?_
   refine od_ ?_
   refine tk (m := 6) [6, 7] [] [1, 2, 5, 18] [(10, .int .i64 ((if (33 : Int) < ((n : Nat) : Int) then 33 else (n : Nat))))] ([]) #[true, true, true, true, true, true, true, true, false, true, true, true, true, true, true, true, false, false, false, false, false] al0 ?_
   exact wk (hmx22 () trivial) [1, 2, 5, 10, 18] [[_], [_]] [0, 1] rfl rfl
  refine any_cutX (V := Unit) (fun _ => True) 9 #[true, true, true, true, true, true, true, true, true, true, true, true, false, false, false, false, false, false, false, false, false] (fun _ => [(1, .pointer (some ⟨γ1 0, 0, none⟩)), (2, .pointer (some ⟨γ1 1, 0, none⟩)), (11, .slice p ((min n 33)) cap), (13, .slice pa na ca), (14, .pointer (some ⟨γ1 0, 2, none⟩))]) (fun _ => [bx (γ1 1) (#[.int .i64 0, .slice none 0 0, .slice none 0 0]) 27, bx (γ1 0) (#[.int .i64 now, .slice p n cap, .slice pa na ca]) 27]) ?_ (fun hmx15 => ?_)
  ·
   rintro _ _
   refine a1 12 rfl ?_
   refine qo0 1 [(12, .go (owns 1 2 1))] [1, 2, 11, 13] [(15, .slice pa na ca)] ?_
   refine od_ ?_
   refine tk (m := 4) [13, 14, 16, 17] [] [1, 2, 11, 13] [(17, .int .i64 ((if (17 : Int) < ((na : Nat) : Int) then 17 else (na : Nat)))), (20, .pointer (some ⟨γ1 0, 1, none⟩))] ([]) #[true, true, true, true, true, true, true, true, true, true, true, true, true, true, true, false, true, true, false, false, false] al0 ?_
   exact wk (hmx23 () trivial) [1, 2, 11, 13, 17, 20] [[_], [_]] [0, 1] rfl rfl
  refine any_cutX (V := Unit) (fun _ => True) 9 #[true, true, false, true, true, true, true, true, false, true, false, true, true, true, true, false, false, false, false, false, false] (fun _ => [(1, .pointer (some ⟨γ1 0, 0, none⟩)), (2, .pointer (some ⟨γ1 1, 0, none⟩)), (4, .pointer (some ⟨γ1 0, 1, none⟩)), (10, .int .i64 ((if (33 : Int) < ((n : Nat) : Int) then 33 else (n : Nat)))), (12, .pointer (some ⟨γ1 0, 2, none⟩)), (17, .int .i64 ((if (17 : Int) < ((na : Nat) : Int) then 17 else (na : Nat))))]) (fun _ => [bx (γ1 1) (#[.int .i64 0, .slice none 0 0, .slice none 0 0]) 27, bx (γ1 0) (#[.int .i64 now, .slice p n cap, .slice pa na ca]) 27]) ?_ (fun hmx14 => ?_)
  ·
   rintro _ _
   refine any_fork [2, 10] (by kernel_rfl) (by simp) (each_cons _ rfl ?_ (each_cons _ rfl ?_ (each_nil)))
   ·
    refine qo0 1 [(2, .go (owns 1 1 1))] [1, 2, 10, 12, 17] [(5, .slice p n cap)] ?_
    refine od_ ?_
    exact wk (hmx17 () trivial) [1, 2, 5, 10, 12, 17] [[_], [_]] [0, 1] rfl rfl
   ·
    refine qo0 1 [(10, .go (owns 1 2 1))] [1, 2, 4, 10, 17] [(13, .slice pa na ca)] ?_
    refine od_ ?_
    exact wk (hmx18 () trivial) [1, 2, 4, 10, 13, 17] [[_], [_]] [0, 1] rfl rfl
  refine any_cutX (V := Unit) (fun _ => True) 10 #[true, true, false, true, true, false, false, false, false, true, true, true, true, true, true, true, false, false, false, false, false] (fun _ => [(1, .pointer (some ⟨γ1 0, 0, none⟩)), (2, .pointer (some ⟨γ1 1, 0, none⟩)), (4, .pointer (some ⟨γ1 0, 1, none⟩)), (7, .pointer (some ⟨γ1 0, 1, none⟩)), (18, .slice pa ((min na 17)) ca)]) (fun _ => [bx (γ1 1) (#[.int .i64 0, .slice none 0 0, .slice none 0 0]) 27, bx (γ1 0) (#[.int .i64 now, .slice p n cap, .slice pa na ca]) 27]) ?_ (fun hmx13 => ?_)
  ·
   rintro _ _
   refine any_fork [2, 5] (by kernel_rfl) (by simp) (each_cons _ rfl ?_ (each_cons _ rfl ?_ (each_nil)))
   ·
    refine qo0 1 [(2, .go (owns 1 1 1))] [1, 2, 7, 18] [(5, .slice p n cap)] ?_
    refine od_ ?_
    exact wk (hmx16 () trivial) [1, 2, 5, 7, 18] [[_], [_]] [0, 1] rfl rfl
   ·
    refine qo0 1 [(5, .go (owns 1 1 1))] [1, 2, 4, 18] [(8, .slice p n cap)] ?_
    refine od_ ?_
    refine tk (m := 7) [6, 7] [] [1, 2, 4, 18] [(10, .int .i64 ((if (33 : Int) < ((n : Nat) : Int) then 33 else (n : Nat))))] ([]) #[true, true, false, true, true, true, true, true, false, true, true, true, true, true, true, true, false, false, false, false, false] al0 ?_
    exact wk (hmx21 () trivial) [1, 2, 4, 10, 18] [[_], [_]] [0, 1] rfl rfl
  refine any_cutX (V := Unit) (fun _ => True) 10 #[true, true, true, true, true, true, true, true, true, true, false, true, false, false, false, false, false, false, false, false, false] (fun _ => [(1, .pointer (some ⟨γ1 0, 0, none⟩)), (2, .pointer (some ⟨γ1 1, 0, none⟩)), (11, .slice p ((min n 33)) cap), (12, .pointer (some ⟨γ1 0, 2, none⟩)), (14, .pointer (some ⟨γ1 0, 2, none⟩))]) (fun _ => [bx (γ1 1) (#[.int .i64 0, .slice none 0 0, .slice none 0 0]) 27, bx (γ1 0) (#[.int .i64 now, .slice p n cap, .slice pa na ca]) 27]) ?_ (fun hmx12 => ?_)
  ·
   rintro _ _
   refine any_fork [10, 12] (by kernel_rfl) (by simp) (each_cons _ rfl ?_ (each_cons _ rfl ?_ (each_nil)))
   ·
    refine qo0 1 [(10, .go (owns 1 2 1))] [1, 2, 11, 14] [(13, .slice pa na ca)] ?_
    refine od_ ?_
    exact wk (hmx15 () trivial) [1, 2, 11, 13, 14] [[_], [_]] [0, 1] rfl rfl
   ·
    refine qo0 1 [(12, .go (owns 1 2 1))] [1, 2, 11, 12] [(15, .slice pa na ca)] ?_
    refine od_ ?_
    refine tk (m := 7) [13, 14] [] [1, 2, 11, 12] [(17, .int .i64 ((if (17 : Int) < ((na : Nat) : Int) then 17 else (na : Nat))))] ([]) #[true, true, true, true, true, true, true, true, true, true, false, true, true, true, true, false, false, false, false, false, false] al0 ?_
    exact wk (hmx20 () trivial) [1, 2, 11, 12, 17] [[_], [_]] [0, 1] rfl rfl
  refine any_cutX (V := Unit) (fun _ => True) 10 #[true, true, true, true, true, false, false, false, false, true, true, true, true, true, true, false, false, false, false, false, false] (fun _ => [(1, .pointer (some ⟨γ1 0, 0, none⟩)), (2, .pointer (some ⟨γ1 1, 0, none⟩)), (5, .slice p n cap), (7, .pointer (some ⟨γ1 0, 1, none⟩)), (13, .slice pa na ca), (17, .int .i64 ((if (17 : Int) < ((na : Nat) : Int) then 17 else (na : Nat))))]) (fun _ => [bx (γ1 1) (#[.int .i64 0, .slice none 0 0, .slice none 0 0]) 27, bx (γ1 0) (#[.int .i64 now, .slice p n cap, .slice pa na ca]) 27]) ?_ (fun hmx11 => ?_)
  ·
   rintro _ _
   refine any_fork [5, 15] (by kernel_rfl) (by simp) (each_cons _ rfl ?_ (each_cons _ rfl ?_ (each_nil)))
   ·
    refine qo0 1 [(5, .go (owns 1 1 1))] [1, 2, 5, 13, 17] [(8, .slice p n cap)] ?_
    refine od_ ?_
    refine tk (m := 7) [6, 7] [] [1, 2, 5, 13, 17] [(10, .int .i64 ((if (33 : Int) < ((n : Nat) : Int) then 33 else (n : Nat))))] ([]) #[true, true, true, true, true, true, true, true, false, true, true, true, true, true, true, false, false, false, false, false, false] al0 ?_
    exact wk (hmx19 () trivial) [1, 2, 5, 10, 13, 17] [[_], [_]] [0, 1] rfl rfl
   ·
    refine qo 1 [(15, .sl (.slice pa ((min na 17)) ca))] [1, 2, 5, 7] [(18, .slice pa ((min na 17)) ca)] ([SlRun Try.prog 25 (.slice pa na ca) none (some (.int .i64 ((if (17 : Int) < ((na : Nat) : Int) then 17 else (na : Nat))))) none (.slice pa ((min na 17)) ca)]) (al1 (by rw [min_if17]; exact slE_hi (P := Try.prog) (h := (min na 17)) (T := 25) (e := 47) (k := 3) (by_ := 24) (by kernel_rfl) (by omega))) ?_
    refine od_ ?_
    exact wk (hmx16 () trivial) [1, 2, 5, 7, 18] [[_], [_]] [0, 1] rfl rfl
  refine any_cutX (V := Unit) (fun _ => True) 10 #[true, true, true, true, true, true, true, true, false, true, true, true, false, false, false, false, false, false, false, false, false] (fun _ => [(1, .pointer (some ⟨γ1 0, 0, none⟩)), (2, .pointer (some ⟨γ1 1, 0, none⟩)), (5, .slice p n cap), (10, .int .i64 ((if (33 : Int) < ((n : Nat) : Int) then 33 else (n : Nat)))), (13, .slice pa na ca), (14, .pointer (some ⟨γ1 0, 2, none⟩))]) (fun _ => [bx (γ1 1) (#[.int .i64 0, .slice none 0 0, .slice none 0 0]) 27, bx (γ1 0) (#[.int .i64 now, .slice p n cap, .slice pa na ca]) 27]) ?_ (fun hmx10 => ?_)
  ·
   rintro _ _
   refine any_fork [8, 12] (by kernel_rfl) (by simp) (each_cons _ rfl ?_ (each_cons _ rfl ?_ (each_nil)))
   ·
    refine qo 1 [(8, .sl (.slice p ((min n 33)) cap))] [1, 2, 13, 14] [(11, .slice p ((min n 33)) cap)] ([SlRun Try.prog 22 (.slice p n cap) none (some (.int .i64 ((if (33 : Int) < ((n : Nat) : Int) then 33 else (n : Nat))))) none (.slice p ((min n 33)) cap)]) (al1 (by rw [min_if33]; exact slE_hi (P := Try.prog) (h := (min n 33)) (T := 22) (e := 88) (k := 2) (by_ := 16) (by kernel_rfl) (by omega))) ?_
    refine od_ ?_
    exact wk (hmx15 () trivial) [1, 2, 11, 13, 14] [[_], [_]] [0, 1] rfl rfl
   ·
    refine qo0 1 [(12, .go (owns 1 2 1))] [1, 2, 5, 10, 13] [(15, .slice pa na ca)] ?_
    refine od_ ?_
    refine tk (m := 7) [13, 14] [] [1, 2, 5, 10, 13] [(17, .int .i64 ((if (17 : Int) < ((na : Nat) : Int) then 17 else (na : Nat))))] ([]) #[true, true, true, true, true, true, true, true, false, true, true, true, true, true, true, false, false, false, false, false, false] al0 ?_
    exact wk (hmx19 () trivial) [1, 2, 5, 10, 13, 17] [[_], [_]] [0, 1] rfl rfl
  refine any_cutX (V := Unit) (fun _ => True) 11 #[true, true, false, true, true, false, false, false, false, true, true, true, true, true, true, false, false, false, false, false, false] (fun _ => [(1, .pointer (some ⟨γ1 0, 0, none⟩)), (2, .pointer (some ⟨γ1 1, 0, none⟩)), (4, .pointer (some ⟨γ1 0, 1, none⟩)), (7, .pointer (some ⟨γ1 0, 1, none⟩)), (13, .slice pa na ca), (17, .int .i64 ((if (17 : Int) < ((na : Nat) : Int) then 17 else (na : Nat))))]) (fun _ => [bx (γ1 1) (#[.int .i64 0, .slice none 0 0, .slice none 0 0]) 27, bx (γ1 0) (#[.int .i64 now, .slice p n cap, .slice pa na ca]) 27]) ?_ (fun hmx9 => ?_)
  ·
   rintro _ _
   refine any_fork [2, 5, 15] (by kernel_rfl) (by simp) (each_cons _ rfl ?_ (each_cons _ rfl ?_ (each_cons _ rfl ?_ (each_nil))))
   ·
    refine qo0 1 [(2, .go (owns 1 1 1))] [1, 2, 7, 13, 17] [(5, .slice p n cap)] ?_
    refine od_ ?_
    exact wk (hmx11 () trivial) [1, 2, 5, 7, 13, 17] [[_], [_]] [0, 1] rfl rfl
   ·
    refine qo0 1 [(5, .go (owns 1 1 1))] [1, 2, 4, 13, 17] [(8, .slice p n cap)] ?_
    refine od_ ?_
    refine tk (m := 8) [6, 7] [] [1, 2, 4, 13, 17] [(10, .int .i64 ((if (33 : Int) < ((n : Nat) : Int) then 33 else (n : Nat))))] ([]) #[true, true, false, true, true, true, true, true, false, true, true, true, true, true, true, false, false, false, false, false, false] al0 ?_
    exact wk (hmx18 () trivial) [1, 2, 4, 10, 13, 17] [[_], [_]] [0, 1] rfl rfl
   ·
    refine qo 1 [(15, .sl (.slice pa ((min na 17)) ca))] [1, 2, 4, 7] [(18, .slice pa ((min na 17)) ca)] ([SlRun Try.prog 25 (.slice pa na ca) none (some (.int .i64 ((if (17 : Int) < ((na : Nat) : Int) then 17 else (na : Nat))))) none (.slice pa ((min na 17)) ca)]) (al1 (by rw [min_if17]; exact slE_hi (P := Try.prog) (h := (min na 17)) (T := 25) (e := 47) (k := 3) (by_ := 24) (by kernel_rfl) (by omega))) ?_
    refine od_ ?_
    exact wk (hmx13 () trivial) [1, 2, 4, 7, 18] [[_], [_]] [0, 1] rfl rfl
  refine any_cutX (V := Unit) (fun _ => True) 11 #[true, true, false, true, true, true, true, true, false, true, true, true, false, false, false, false, false, false, false, false, false] (fun _ => [(1, .pointer (some ⟨γ1 0, 0, none⟩)), (2, .pointer (some ⟨γ1 1, 0, none⟩)), (4, .pointer (some ⟨γ1 0, 1, none⟩)), (10, .int .i64 ((if (33 : Int) < ((n : Nat) : Int) then 33 else (n : Nat)))), (13, .slice pa na ca), (14, .pointer (some ⟨γ1 0, 2, none⟩))]) (fun _ => [bx (γ1 1) (#[.int .i64 0, .slice none 0 0, .slice none 0 0]) 27, bx (γ1 0) (#[.int .i64 now, .slice p n cap, .slice pa na ca]) 27]) ?_ (fun hmx8 => ?_)
  ·
   rintro _ _
   refine any_fork [2, 12] (by kernel_rfl) (by simp) (each_cons _ rfl ?_ (each_cons _ rfl ?_ (each_nil)))
   ·
    refine qo0 1 [(2, .go (owns 1 1 1))] [1, 2, 10, 13, 14] [(5, .slice p n cap)] ?_
    refine od_ ?_
    exact wk (hmx10 () trivial) [1, 2, 5, 10, 13, 14] [[_], [_]] [0, 1] rfl rfl
   ·
    refine qo0 1 [(12, .go (owns 1 2 1))] [1, 2, 4, 10, 13] [(15, .slice pa na ca)] ?_
    refine od_ ?_
    refine tk (m := 8) [13, 14] [] [1, 2, 4, 10, 13] [(17, .int .i64 ((if (17 : Int) < ((na : Nat) : Int) then 17 else (na : Nat))))] ([]) #[true, true, false, true, true, true, true, true, false, true, true, true, true, true, true, false, false, false, false, false, false] al0 ?_
    exact wk (hmx18 () trivial) [1, 2, 4, 10, 13, 17] [[_], [_]] [0, 1] rfl rfl
  refine any_cutX (V := Unit) (fun _ => True) 11 #[true, true, true, true, true, false, false, false, false, true, false, true, true, true, true, false, false, false, false, false, false] (fun _ => [(1, .pointer (some ⟨γ1 0, 0, none⟩)), (2, .pointer (some ⟨γ1 1, 0, none⟩)), (5, .slice p n cap), (7, .pointer (some ⟨γ1 0, 1, none⟩)), (12, .pointer (some ⟨γ1 0, 2, none⟩)), (17, .int .i64 ((if (17 : Int) < ((na : Nat) : Int) then 17 else (na : Nat))))]) (fun _ => [bx (γ1 1) (#[.int .i64 0, .slice none 0 0, .slice none 0 0]) 27, bx (γ1 0) (#[.int .i64 now, .slice p n cap, .slice pa na ca]) 27]) ?_ (fun hmx7 => ?_)
  ·
   rintro _ _
   refine any_fork [5, 10] (by kernel_rfl) (by simp) (each_cons _ rfl ?_ (each_cons _ rfl ?_ (each_nil)))
   ·
    refine qo0 1 [(5, .go (owns 1 1 1))] [1, 2, 5, 12, 17] [(8, .slice p n cap)] ?_
    refine od_ ?_
    refine tk (m := 8) [6, 7] [] [1, 2, 5, 12, 17] [(10, .int .i64 ((if (33 : Int) < ((n : Nat) : Int) then 33 else (n : Nat))))] ([]) #[true, true, true, true, true, true, true, true, false, true, false, true, true, true, true, false, false, false, false, false, false] al0 ?_
    exact wk (hmx17 () trivial) [1, 2, 5, 10, 12, 17] [[_], [_]] [0, 1] rfl rfl
   ·
    refine qo0 1 [(10, .go (owns 1 2 1))] [1, 2, 5, 7, 17] [(13, .slice pa na ca)] ?_
    refine od_ ?_
    exact wk (hmx11 () trivial) [1, 2, 5, 7, 13, 17] [[_], [_]] [0, 1] rfl rfl
  refine any_cutX (V := Unit) (fun _ => True) 11 #[true, true, true, true, true, true, true, true, false, true, false, true, false, false, false, false, false, false, false, false, false] (fun _ => [(1, .pointer (some ⟨γ1 0, 0, none⟩)), (2, .pointer (some ⟨γ1 1, 0, none⟩)), (5, .slice p n cap), (10, .int .i64 ((if (33 : Int) < ((n : Nat) : Int) then 33 else (n : Nat)))), (12, .pointer (some ⟨γ1 0, 2, none⟩)), (14, .pointer (some ⟨γ1 0, 2, none⟩))]) (fun _ => [bx (γ1 1) (#[.int .i64 0, .slice none 0 0, .slice none 0 0]) 27, bx (γ1 0) (#[.int .i64 now, .slice p n cap, .slice pa na ca]) 27]) ?_ (fun hmx6 => ?_)
  ·
   rintro _ _
   refine any_fork [8, 10, 12] (by kernel_rfl) (by simp) (each_cons _ rfl ?_ (each_cons _ rfl ?_ (each_cons _ rfl ?_ (each_nil))))
   ·
    refine qo 1 [(8, .sl (.slice p ((min n 33)) cap))] [1, 2, 12, 14] [(11, .slice p ((min n 33)) cap)] ([SlRun Try.prog 22 (.slice p n cap) none (some (.int .i64 ((if (33 : Int) < ((n : Nat) : Int) then 33 else (n : Nat))))) none (.slice p ((min n 33)) cap)]) (al1 (by rw [min_if33]; exact slE_hi (P := Try.prog) (h := (min n 33)) (T := 22) (e := 88) (k := 2) (by_ := 16) (by kernel_rfl) (by omega))) ?_
    refine od_ ?_
    exact wk (hmx12 () trivial) [1, 2, 11, 12, 14] [[_], [_]] [0, 1] rfl rfl
   ·
    refine qo0 1 [(10, .go (owns 1 2 1))] [1, 2, 5, 10, 14] [(13, .slice pa na ca)] ?_
    refine od_ ?_
    exact wk (hmx10 () trivial) [1, 2, 5, 10, 13, 14] [[_], [_]] [0, 1] rfl rfl
   ·
    refine qo0 1 [(12, .go (owns 1 2 1))] [1, 2, 5, 10, 12] [(15, .slice pa na ca)] ?_
    refine od_ ?_
    refine tk (m := 8) [13, 14] [] [1, 2, 5, 10, 12] [(17, .int .i64 ((if (17 : Int) < ((na : Nat) : Int) then 17 else (na : Nat))))] ([]) #[true, true, true, true, true, true, true, true, false, true, false, true, true, true, true, false, false, false, false, false, false] al0 ?_
    exact wk (hmx17 () trivial) [1, 2, 5, 10, 12, 17] [[_], [_]] [0, 1] rfl rfl
  refine any_cutX (V := Unit) (fun _ => True) 12 #[true, true, false, true, true, false, false, false, false, true, false, true, true, true, true, false, false, false, false, false, false] (fun _ => [(1, .pointer (some ⟨γ1 0, 0, none⟩)), (2, .pointer (some ⟨γ1 1, 0, none⟩)), (4, .pointer (some ⟨γ1 0, 1, none⟩)), (7, .pointer (some ⟨γ1 0, 1, none⟩)), (12, .pointer (some ⟨γ1 0, 2, none⟩)), (17, .int .i64 ((if (17 : Int) < ((na : Nat) : Int) then 17 else (na : Nat))))]) (fun _ => [bx (γ1 1) (#[.int .i64 0, .slice none 0 0, .slice none 0 0]) 27, bx (γ1 0) (#[.int .i64 now, .slice p n cap, .slice pa na ca]) 27]) ?_ (fun hmx5 => ?_)
  ·
   rintro _ _
   refine any_fork [2, 5, 10] (by kernel_rfl) (by simp) (each_cons _ rfl ?_ (each_cons _ rfl ?_ (each_cons _ rfl ?_ (each_nil))))
   ·
    refine qo0 1 [(2, .go (owns 1 1 1))] [1, 2, 7, 12, 17] [(5, .slice p n cap)] ?_
    refine od_ ?_
    exact wk (hmx7 () trivial) [1, 2, 5, 7, 12, 17] [[_], [_]] [0, 1] rfl rfl
   ·
    refine qo0 1 [(5, .go (owns 1 1 1))] [1, 2, 4, 12, 17] [(8, .slice p n cap)] ?_
    refine od_ ?_
    refine tk (m := 9) [6, 7] [] [1, 2, 4, 12, 17] [(10, .int .i64 ((if (33 : Int) < ((n : Nat) : Int) then 33 else (n : Nat))))] ([]) #[true, true, false, true, true, true, true, true, false, true, false, true, true, true, true, false, false, false, false, false, false] al0 ?_
    exact wk (hmx14 () trivial) [1, 2, 4, 10, 12, 17] [[_], [_]] [0, 1] rfl rfl
   ·
    refine qo0 1 [(10, .go (owns 1 2 1))] [1, 2, 4, 7, 17] [(13, .slice pa na ca)] ?_
    refine od_ ?_
    exact wk (hmx9 () trivial) [1, 2, 4, 7, 13, 17] [[_], [_]] [0, 1] rfl rfl
  refine any_cutX (V := Unit) (fun _ => True) 12 #[true, true, false, true, true, true, true, true, false, true, false, true, false, false, false, false, false, false, false, false, false] (fun _ => [(1, .pointer (some ⟨γ1 0, 0, none⟩)), (2, .pointer (some ⟨γ1 1, 0, none⟩)), (4, .pointer (some ⟨γ1 0, 1, none⟩)), (10, .int .i64 ((if (33 : Int) < ((n : Nat) : Int) then 33 else (n : Nat)))), (12, .pointer (some ⟨γ1 0, 2, none⟩)), (14, .pointer (some ⟨γ1 0, 2, none⟩))]) (fun _ => [bx (γ1 1) (#[.int .i64 0, .slice none 0 0, .slice none 0 0]) 27, bx (γ1 0) (#[.int .i64 now, .slice p n cap, .slice pa na ca]) 27]) ?_ (fun hmx4 => ?_)
  ·
   rintro _ _
   refine any_fork [2, 10, 12] (by kernel_rfl) (by simp) (each_cons _ rfl ?_ (each_cons _ rfl ?_ (each_cons _ rfl ?_ (each_nil))))
   ·
    refine qo0 1 [(2, .go (owns 1 1 1))] [1, 2, 10, 12, 14] [(5, .slice p n cap)] ?_
    refine od_ ?_
    exact wk (hmx6 () trivial) [1, 2, 5, 10, 12, 14] [[_], [_]] [0, 1] rfl rfl
   ·
    refine qo0 1 [(10, .go (owns 1 2 1))] [1, 2, 4, 10, 14] [(13, .slice pa na ca)] ?_
    refine od_ ?_
    exact wk (hmx8 () trivial) [1, 2, 4, 10, 13, 14] [[_], [_]] [0, 1] rfl rfl
   ·
    refine qo0 1 [(12, .go (owns 1 2 1))] [1, 2, 4, 10, 12] [(15, .slice pa na ca)] ?_
    refine od_ ?_
    refine tk (m := 9) [13, 14] [] [1, 2, 4, 10, 12] [(17, .int .i64 ((if (17 : Int) < ((na : Nat) : Int) then 17 else (na : Nat))))] ([]) #[true, true, false, true, true, true, true, true, false, true, false, true, true, true, true, false, false, false, false, false, false] al0 ?_
    exact wk (hmx14 () trivial) [1, 2, 4, 10, 12, 17] [[_], [_]] [0, 1] rfl rfl
  refine any_cutX (V := Unit) (fun _ => True) 13 #[true, true, true, true, true, false, false, false, false, true, true, true, false, false, false, false, false, false, false, false, false] (fun _ => [(1, .pointer (some ⟨γ1 0, 0, none⟩)), (2, .pointer (some ⟨γ1 1, 0, none⟩)), (5, .slice p n cap), (7, .pointer (some ⟨γ1 0, 1, none⟩)), (13, .slice pa na ca), (14, .pointer (some ⟨γ1 0, 2, none⟩))]) (fun _ => [bx (γ1 1) (#[.int .i64 0, .slice none 0 0, .slice none 0 0]) 27, bx (γ1 0) (#[.int .i64 now, .slice p n cap, .slice pa na ca]) 27]) ?_ (fun hmx3 => ?_)
  ·
   rintro _ _
   refine any_fork [5, 12] (by kernel_rfl) (by simp) (each_cons _ rfl ?_ (each_cons _ rfl ?_ (each_nil)))
   ·
    refine qo0 1 [(5, .go (owns 1 1 1))] [1, 2, 5, 13, 14] [(8, .slice p n cap)] ?_
    refine od_ ?_
    refine tk (m := 10) [6, 7] [] [1, 2, 5, 13, 14] [(10, .int .i64 ((if (33 : Int) < ((n : Nat) : Int) then 33 else (n : Nat))))] ([]) #[true, true, true, true, true, true, true, true, false, true, true, true, false, false, false, false, false, false, false, false, false] al0 ?_
    exact wk (hmx10 () trivial) [1, 2, 5, 10, 13, 14] [[_], [_]] [0, 1] rfl rfl
   ·
    refine qo0 1 [(12, .go (owns 1 2 1))] [1, 2, 5, 7, 13] [(15, .slice pa na ca)] ?_
    refine od_ ?_
    refine tk (m := 10) [13, 14] [] [1, 2, 5, 7, 13] [(17, .int .i64 ((if (17 : Int) < ((na : Nat) : Int) then 17 else (na : Nat))))] ([]) #[true, true, true, true, true, false, false, false, false, true, true, true, true, true, true, false, false, false, false, false, false] al0 ?_
    exact wk (hmx11 () trivial) [1, 2, 5, 7, 13, 17] [[_], [_]] [0, 1] rfl rfl
  refine any_cutX (V := Unit) (fun _ => True) 14 #[true, true, false, true, true, false, false, false, false, true, true, true, false, false, false, false, false, false, false, false, false] (fun _ => [(1, .pointer (some ⟨γ1 0, 0, none⟩)), (2, .pointer (some ⟨γ1 1, 0, none⟩)), (4, .pointer (some ⟨γ1 0, 1, none⟩)), (7, .pointer (some ⟨γ1 0, 1, none⟩)), (13, .slice pa na ca), (14, .pointer (some ⟨γ1 0, 2, none⟩))]) (fun _ => [bx (γ1 1) (#[.int .i64 0, .slice none 0 0, .slice none 0 0]) 27, bx (γ1 0) (#[.int .i64 now, .slice p n cap, .slice pa na ca]) 27]) ?_ (fun hmx2 => ?_)
  ·
   rintro _ _
   refine any_fork [2, 5, 12] (by kernel_rfl) (by simp) (each_cons _ rfl ?_ (each_cons _ rfl ?_ (each_cons _ rfl ?_ (each_nil))))
   ·
    refine qo0 1 [(2, .go (owns 1 1 1))] [1, 2, 7, 13, 14] [(5, .slice p n cap)] ?_
    refine od_ ?_
    exact wk (hmx3 () trivial) [1, 2, 5, 7, 13, 14] [[_], [_]] [0, 1] rfl rfl
   ·
    refine qo0 1 [(5, .go (owns 1 1 1))] [1, 2, 4, 13, 14] [(8, .slice p n cap)] ?_
    refine od_ ?_
    refine tk (m := 11) [6, 7] [] [1, 2, 4, 13, 14] [(10, .int .i64 ((if (33 : Int) < ((n : Nat) : Int) then 33 else (n : Nat))))] ([]) #[true, true, false, true, true, true, true, true, false, true, true, true, false, false, false, false, false, false, false, false, false] al0 ?_
    exact wk (hmx8 () trivial) [1, 2, 4, 10, 13, 14] [[_], [_]] [0, 1] rfl rfl
   ·
    refine qo0 1 [(12, .go (owns 1 2 1))] [1, 2, 4, 7, 13] [(15, .slice pa na ca)] ?_
    refine od_ ?_
    refine tk (m := 11) [13, 14] [] [1, 2, 4, 7, 13] [(17, .int .i64 ((if (17 : Int) < ((na : Nat) : Int) then 17 else (na : Nat))))] ([]) #[true, true, false, true, true, false, false, false, false, true, true, true, true, true, true, false, false, false, false, false, false] al0 ?_
    exact wk (hmx9 () trivial) [1, 2, 4, 7, 13, 17] [[_], [_]] [0, 1] rfl rfl
  refine any_cutX (V := Unit) (fun _ => True) 14 #[true, true, true, true, true, false, false, false, false, true, false, true, false, false, false, false, false, false, false, false, false] (fun _ => [(1, .pointer (some ⟨γ1 0, 0, none⟩)), (2, .pointer (some ⟨γ1 1, 0, none⟩)), (5, .slice p n cap), (7, .pointer (some ⟨γ1 0, 1, none⟩)), (12, .pointer (some ⟨γ1 0, 2, none⟩)), (14, .pointer (some ⟨γ1 0, 2, none⟩))]) (fun _ => [bx (γ1 1) (#[.int .i64 0, .slice none 0 0, .slice none 0 0]) 27, bx (γ1 0) (#[.int .i64 now, .slice p n cap, .slice pa na ca]) 27]) ?_ (fun hmx1 => ?_)
  ·
   rintro _ _
   refine any_fork [5, 10, 12] (by kernel_rfl) (by simp) (each_cons _ rfl ?_ (each_cons _ rfl ?_ (each_cons _ rfl ?_ (each_nil))))
   ·
    refine qo0 1 [(5, .go (owns 1 1 1))] [1, 2, 5, 12, 14] [(8, .slice p n cap)] ?_
    refine od_ ?_
    refine tk (m := 11) [6, 7] [] [1, 2, 5, 12, 14] [(10, .int .i64 ((if (33 : Int) < ((n : Nat) : Int) then 33 else (n : Nat))))] ([]) #[true, true, true, true, true, true, true, true, false, true, false, true, false, false, false, false, false, false, false, false, false] al0 ?_
    exact wk (hmx6 () trivial) [1, 2, 5, 10, 12, 14] [[_], [_]] [0, 1] rfl rfl
   ·
    refine qo0 1 [(10, .go (owns 1 2 1))] [1, 2, 5, 7, 14] [(13, .slice pa na ca)] ?_
    refine od_ ?_
    exact wk (hmx3 () trivial) [1, 2, 5, 7, 13, 14] [[_], [_]] [0, 1] rfl rfl
   ·
    refine qo0 1 [(12, .go (owns 1 2 1))] [1, 2, 5, 7, 12] [(15, .slice pa na ca)] ?_
    refine od_ ?_
    refine tk (m := 11) [13, 14] [] [1, 2, 5, 7, 12] [(17, .int .i64 ((if (17 : Int) < ((na : Nat) : Int) then 17 else (na : Nat))))] ([]) #[true, true, true, true, true, false, false, false, false, true, false, true, true, true, true, false, false, false, false, false, false] al0 ?_
    exact wk (hmx7 () trivial) [1, 2, 5, 7, 12, 17] [[_], [_]] [0, 1] rfl rfl
  refine any_fork [2, 5, 10, 12] (by kernel_rfl) (by simp) (each_cons _ rfl ?_ (each_cons _ rfl ?_ (each_cons _ rfl ?_ (each_cons _ rfl ?_ (each_nil)))))
  ·
   refine qo0 1 [(2, .go (owns 1 1 1))] [1, 2, 7, 12, 14] [(5, .slice p n cap)] ?_
   refine od_ ?_
   exact wk (hmx1 () trivial) [1, 2, 5, 7, 12, 14] [[_], [_]] [0, 1] rfl rfl
  ·
   refine qo0 1 [(5, .go (owns 1 1 1))] [1, 2, 4, 12, 14] [(8, .slice p n cap)] ?_
   refine od_ ?_
   refine tk (m := 12) [6, 7] [] [1, 2, 4, 12, 14] [(10, .int .i64 ((if (33 : Int) < ((n : Nat) : Int) then 33 else (n : Nat))))] ([]) #[true, true, false, true, true, true, true, true, false, true, false, true, false, false, false, false, false, false, false, false, false] al0 ?_
   exact wk (hmx4 () trivial) [1, 2, 4, 10, 12, 14] [[_], [_]] [0, 1] rfl rfl
  ·
   refine qo0 1 [(10, .go (owns 1 2 1))] [1, 2, 4, 7, 14] [(13, .slice pa na ca)] ?_
   refine od_ ?_
   exact wk (hmx2 () trivial) [1, 2, 4, 7, 13, 14] [[_], [_]] [0, 1] rfl rfl
  ·
   refine qo0 1 [(12, .go (owns 1 2 1))] [1, 2, 4, 7, 12] [(15, .slice pa na ca)] ?_
   refine od_ ?_
   refine tk (m := 12) [13, 14] [] [1, 2, 4, 7, 12] [(17, .int .i64 ((if (17 : Int) < ((na : Nat) : Int) then 17 else (na : Nat))))] ([]) #[true, true, false, true, true, false, false, false, false, true, false, true, true, true, true, false, false, false, false, false, false] al0 ?_
   exact wk (hmx5 () trivial) [1, 2, 4, 7, 12, 17] [[_], [_]] [0, 1] rfl rfl
 rintro _ _
 refine any_nil (by kernel_rfl) ?_
 refine ds_ (sq_ (ao_ (qo0 1 [(0, .go (owns 1 0 3))] [2] [(22, .agg #[.int .i64 now, .slice p ((min n 33)) cap, .slice pa ((min na 17)) ca])] (cP (fun v L' => ∃ q_ m_ c_ Y_ q2_ m2_ c2_ X_, v = .agg #[.int .i64 now, .slice q_ m_ c_, .slice q2_ m2_ c2_] ∧ L' = List.take 2 ([bx (γ1 1) (#[.int .i64 0, .slice none 0 0, .slice none 0 0]) 27, bx (γ1 0) (#[.int .i64 now, .slice p ((min n 33)) cap, .slice pa ((min na 17)) ca]) 27]) ++ (Y_ ++ (X_ ++ List.drop 2 ([bx (γ1 1) (#[.int .i64 0, .slice none 0 0, .slice none 0 0]) 27, bx (γ1 0) (#[.int .i64 now, .slice p ((min n 33)) cap, .slice pa ((min na 17)) ca]) 27]))) ∧ SlO 88 Y_ q_ m_ c_ (((ts.take (min n 33)))) ∧ SlO 47 X_ q2_ m2_ c2_ (((rs.take (min na 17))))) Try.call26 (fun w hw => (copy_t now p ((min n 33)) cap ((ts.take (min n 33))) pa ((min na 17)) ca ((rs.take (min na 17))) w ((hts.kept hw.below).take (min n 33)) (by rw [List.length_take]; omega) (by omega) ((hrs.kept hw.below).take (min na 17)) (by rw [List.length_take]; omega) (by omega)).mono fun e w' ⟨q_, m_, c_, Y_, q2_, m2_, c2_, X_, he, h1, h2, hb, hY⟩ => ⟨_, _, he, ⟨q_, m_, c_, Y_, q2_, m2_, c2_, X_, rfl, rfl, h1, h2⟩, hw.joinT hb hY 2⟩) ?_))))
 rintro v508 L508 ⟨q508, m508, c508, Y508, p508, k508, d508, Yx508, rfl, rfl, hO508, hP508⟩
 have hm508 := hO508.len
 have hn508 := hP508.len
 refine mo0 1 [(2, .go (owns 0 0 3))] [2] (fun _ => []) (fun _ L => (L.set 0 (bx (γ1 1) (#[.int .i64 now, .slice q508 m508 c508, .slice p508 k508 d508]) 27))) (fun _ => on_ (ds_ (rt (owns 0 0 3) (.agg #[.int .i64 now, .slice q508 m508 c508, .slice p508 k508 d508]) ?_)))
 rw [take_min hn] at hO508
 rw [take_min hna] at hP508
 exact fun w' hw => ⟨_, _, _, _, _, _, _, _, rfl, hO508, hP508, hw.below, two_tails (Hs.pick [[bx (γ1 1) (#[.int .i64 now, .slice q508 m508 c508, .slice p508 k508 d508]) 27], [bx (γ1 0) (#[.int .i64 now, .slice p ((min n 33)) cap, .slice pa ((min na 17)) ca]) 27], Y508, Yx508] [2, 3] [0, 1] (by kernel_rfl) hw)⟩

set_option maxRecDepth 100000 in
theorem ot_t (o : OpA8) (now : Int) (p : Option Addr) (n cap : Nat) (ts : List Tim) (pa : Option Addr) (na ca : Nat) (rs : List Alm) (w : World)
 (h0 : 0 ≤ now) (h1 : now ≤ 1125899906842624)
 : Calls Try.prog 22 #[.agg #[.int .i64 o.kind, .int .i64 o.vcpu, .int .i64 o.al.vcpu, .int .i64 o.al.port, .int .i64 o.al.every, .int .i64 o.time, .bool o.on], .agg #[.int .i64 now, .slice p n cap, .slice pa na ca]] w fun e w' => e = .returned (.int .i64 (otV now o.on o.time)) ∧ Below w.heap.size w w' := by
 refine enter (Hs.start w) Try.func22 rfl Try.ntmps22 rfl (sq_ (ma0 [] [] (fun γ1 => [(2, .pointer (some ⟨γ1 0, 0, none⟩)), (3, .pointer (some ⟨γ1 1, 0, none⟩))]) (fun γ1 L => bx (γ1 1) (#[.int .i64 now, .slice p n cap, .slice pa na ca]) 27 :: bx (γ1 0) (#[.int .i64 o.kind, .int .i64 o.vcpu, .int .i64 o.al.vcpu, .int .i64 o.al.port, .int .i64 o.al.every, .int .i64 o.time, .bool o.on]) 58 :: L) (fun γ1 => ds_ (sq_ (sq_ (qa0 [(1, .go (owns 1 6 1))] [2, 3] [(6, .bool o.on)] (ds_ ?_)))))))
 rcases q3 : o.on with _ | _
 ·
  refine f_ (at_skip (ds_ (sq_ (qa0 [(1, .go (owns 1 5 1))] [] [(4, .int .i64 o.time)] (ds_ (rt ([]) (.int .i64 o.time) ?_))))))
  exact fun w' hw => ⟨by rw [ot_off], hw.below⟩
 ·
  refine t_ (sq_ ?_)
  have htb := tm_bnd o.time
  refine qa [(2, .go (owns 0 0 1)), (4, .go (owns 1 5 1)), (6, .fit)] [] [(4, .int .i64 (now + (Int.tmod o.time 4503599627370496)))] ([Fit .i64 (now + (Int.tmod o.time 4503599627370496))]) (al1 (fit64 (by omega) (by omega))) (ds_ (rt ([]) (.int .i64 (now + (Int.tmod o.time 4503599627370496))) ?_))
  exact fun w' hw => ⟨by rw [ot_on], hw.below⟩
end Go.Proofs.Ytdbamgbgnpadjaa
