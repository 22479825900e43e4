/- Texts of this proof, one behind the other. -/
import Derived.Test.YtdbamgbgnpadjaaGreatZc
import Derived.Test.YtdbamgbgnpadjaaGreatZd
import Derived.Test.YtdbamgbgnpadjaaGreatZe
import Derived.Test.YtdbamgbgnpadjaaGreatZa
import Derived.Test.YtdbamgbgnpadjaaGreatZb
/-! Alarms: the layer does something; in memory of their own. -/
namespace Go.Proofs.YtdbamgbgnpadjaaGreat
open Go Go.RowKit
theorem Hs.joinZ {w0 w w' : World} {L Y X Z : List Ob} (h : Hs w0 L w) (hb : Below w.heap.size w w') (hY : Hs w (Y ++ (X ++ Z)) w') (n : Nat) : Hs w0 (L.take n ++ (Y ++ (X ++ (Z ++ L.drop n)))) w' := by
 have := h.join hb hY n
 rwa [List.append_assoc, List.append_assoc] at this
theorem rng_eqRun (op : BinOp) (hop : op = .eql ∨ op = .neq) (x y : Operand) (a b : Rng) (r : Bool) (hr : r = (if op = .eql then decide (a = b) else !decide (a = b))) : EqRun Tryz.prog op 50 x y (.agg #[.int .i64 a.vcpu, .int .i64 a.port, .int .i64 a.at_, .int .i64 a.missed]) (.agg #[.int .i64 b.vcpu, .int .i64 b.port, .int .i64 b.at_, .int .i64 b.missed]) r := by
 intro w
 subst hr
 have hS : Tryz.prog.underlying 50 = some (.struct (Tryz.prog.fieldsOf 50)) := by kernel_rfl
 have hp : Tryz.prog.stoodInHeld 50 = false := by kernel_rfl
 have hg : Tryz.prog.eqGuardType Tryz.prog.depth 50 = false := by kernel_rfl
 have key : (Op.equal 50 (.agg #[.int .i64 a.vcpu, .int .i64 a.port, .int .i64 a.at_, .int .i64 a.missed]) (.agg #[.int .i64 b.vcpu, .int .i64 b.port, .int .i64 b.at_, .int .i64 b.missed])).run Tryz.prog w = .ok (decide (a = b)) w := by
  unfold Op.equal
  rw [show Op.maxDepth = 9999 + 1 from rfl, run_equalIn_struct w 9999 50 _ _ hS hp]
  simp only [Program.fieldsOf, Tryz.underlying50]
  go_simp
  obtain ⟨a0, a1, a2, a3⟩ := a
  obtain ⟨b0, b1, b2, b3⟩ := b
  simp only [Rng.mk.injEq]
  by_cases h0 : a0 = b0 <;> by_cases h1 : a1 = b1 <;> by_cases h2 : a2 = b2 <;> by_cases h3 : a3 = b3 <;> simp [h0, h1, h2, h3]
 have guard : (eqGuard op 50 x y (.agg #[.int .i64 a.vcpu, .int .i64 a.port, .int .i64 a.at_, .int .i64 a.missed]) (.agg #[.int .i64 b.vcpu, .int .i64 b.port, .int .i64 b.at_, .int .i64 b.missed])).run Tryz.prog w = .ok () w := by
  unfold eqGuard
  rcases hop with rfl | rfl <;> simp [hg]
 rw [Sem.run_bind, guard]
 simp only [Result.andThen_ok]
 rcases hop with rfl | rfl <;> simp [binOp, Sem.run_bind, key]
theorem rng_eq_t {x y : Operand} {a b : Rng} (h : a = b) : EqRun Tryz.prog .eql 50 x y (.agg #[.int .i64 a.vcpu, .int .i64 a.port, .int .i64 a.at_, .int .i64 a.missed]) (.agg #[.int .i64 b.vcpu, .int .i64 b.port, .int .i64 b.at_, .int .i64 b.missed]) true := rng_eqRun _ (.inl rfl) x y a b _ (by simp [h])
theorem rng_ne_t {x y : Operand} {a b : Rng} (h : a = b) : EqRun Tryz.prog .neq 50 x y (.agg #[.int .i64 a.vcpu, .int .i64 a.port, .int .i64 a.at_, .int .i64 a.missed]) (.agg #[.int .i64 b.vcpu, .int .i64 b.port, .int .i64 b.at_, .int .i64 b.missed]) false := rng_eqRun _ (.inr rfl) x y a b _ (by simp [h])
theorem rng_ne_f {x y : Operand} {a b : Rng} (h : ¬ a = b) : EqRun Tryz.prog .neq 50 x y (.agg #[.int .i64 a.vcpu, .int .i64 a.port, .int .i64 a.at_, .int .i64 a.missed]) (.agg #[.int .i64 b.vcpu, .int .i64 b.port, .int .i64 b.at_, .int .i64 b.missed]) true := rng_eqRun _ (.inr rfl) x y a b _ (by simp [h])

set_option maxRecDepth 100000 in
theorem awakes_t  (w : World)
 : Calls Tryz.prog 4 #[] w fun e w' => e = .returned (.bool true) ∧ Below w.heap.size w w' := by
 refine enter (Hs.start w) Tryz.func4 rfl Tryz.ntmps4 rfl (sq_ (qa0 [] [] [] (ds_ (sq_ (ao_ (qo0 2 [] [] [(10, .agg #[.int .i64 0, .slice none 0 0, .slice none 0 0]), (11, .agg #[.int .i64 2, .int .i64 5, .int .i64 1000])] (cP (fun v L' => ∃ q_ m_ c_ Y_ q2_ m2_ c2_ X_, v = .tuple #[.agg #[.int .i64 0, .slice q_ m_ c_, .slice q2_ m2_ c2_], .int .i64 0] ∧ L' = List.take 0 ([]) ++ (Y_ ++ (X_ ++ List.drop 0 ([]))) ∧ SlO 42 Y_ q_ m_ c_ ([⟨1, 1500⟩] : List Tim) ∧ SlO 32 X_ q2_ m2_ c2_ ([⟨2, 5, 1000⟩] : List Alm)) (fun args w => Tryz.call11 args w) (fun w hw => by have := start_t 0 none 0 0 [] none 0 0 [] (⟨2, 5, 1000⟩ : Alm) 1500 w Sv.nil rfl (by omega) Sv.nil rfl (by omega); rw [vkw1] at this; exact this.mono fun e w' ⟨q_, m_, c_, Y_, q2_, m2_, c2_, X_, he, h1, h2, hb, hY⟩ => ⟨_, _, he, ⟨q_, m_, c_, Y_, q2_, m2_, c2_, X_, rfl, rfl, h1, h2⟩, hw.joinT hb hY 0⟩) ?_)))))))
 rintro v3 L3 ⟨q3, m3, c3, Y3, p3, k3, d3, Yx3, rfl, rfl, hO3, hP3⟩
 have hm3 := hO3.len
 have hn3 := hP3.len
 simp only [List.length_cons, List.length_nil] at hm3
 simp only [List.length_cons, List.length_nil] at hn3
 refine mo0 6 [(7, .go (owns 0 0 3))] [] (fun γ4 => [(1, .pointer (some ⟨γ4 0, 0, none⟩)), (2, .int .i64 0)]) (fun γ4 L => bx (γ4 0) (#[.int .i64 0, .slice q3 m3 c3, .slice p3 k3 d3]) 27 :: L) (fun γ4 => on_ (ds_ (sq_ (ao_ (qo0 1 [(0, .go (owns 0 0 3))] [2] [(16, .agg #[.int .i64 0, .slice q3 m3 c3, .slice p3 k3 d3])] (cP (fun v L' => ∃ q_ m_ c_ Y_ q2_ m2_ c2_ X_ q3_ m3_ c3_ Z_, v = .tuple #[.agg #[.int .i64 5000, .slice q_ m_ c_, .slice q2_ m2_ c2_], .slice q3_ m3_ c3_, .int .i64 0] ∧ L' = List.take 1 (bx (γ4 0) (#[.int .i64 0, .slice q3 m3 c3, .slice p3 k3 d3]) 27 :: (Y3 ++ (Yx3 ++ []))) ++ (Y_ ++ (X_ ++ (Z_ ++ List.drop 1 (bx (γ4 0) (#[.int .i64 0, .slice q3 m3 c3, .slice p3 k3 d3]) 27 :: (Y3 ++ (Yx3 ++ [])))))) ∧ SlO 42 Y_ q_ m_ c_ ([⟨1, 5500⟩] : List Tim) ∧ SlO 32 X_ q2_ m2_ c2_ ([⟨2, 5, 1000⟩] : List Alm) ∧ SlO 50 Z_ q3_ m3_ c3_ ([⟨2, 5, 1500, 3⟩] : List Rng)) (fun args w => Tryz.call12 args w) (fun w hw => by have := apass_t 0 q3 m3 c3 (([⟨1, 1500⟩] : List Tim)) p3 k3 d3 (([⟨2, 5, 1000⟩] : List Alm)) 5000 w (hO3.atN (A := [_]) hw) hO3.len (by omega) (hP3.atN (A := (_ :: Y3)) hw) hP3.len (by omega); rw [vkw4, vkw5] at this; exact this.mono fun e w' ⟨q_, m_, c_, Y_, q2_, m2_, c2_, X_, q3_, m3_, c3_, Z_, he, h1, h2, h3, hb, hY⟩ => ⟨_, _, he, ⟨q_, m_, c_, Y_, q2_, m2_, c2_, X_, q3_, m3_, c3_, Z_, rfl, rfl, h1, h2, h3⟩, hw.joinZ hb hY 1⟩) ?_))))))
 rintro v6 L6 ⟨q6, m6, c6, Y6, p6, k6, d6, Yx6, pz6, kz6, dz6, Yz6, rfl, rfl, hO6, hP6, hZ6⟩
 have hm6 := hO6.len
 have hn6 := hP6.len
 have hz6 := hZ6.len
 simp only [List.length_cons, List.length_nil] at hm6
 simp only [List.length_cons, List.length_nil] at hn6
 simp only [List.length_cons, List.length_nil] at hz6
 refine mo0 8 [(7, .go (owns 0 0 3))] [2] (fun γ7 => [(3, .pointer (some ⟨γ7 0, 0, none⟩)), (4, .slice pz6 kz6 dz6), (5, .int .i64 0)]) (fun γ7 L => bx (γ7 0) (#[.int .i64 5000, .slice q6 m6 c6, .slice p6 k6 d6]) 27 :: L) (fun γ7 => on_ (ds_ (sq_ (ao_ (qo0 1 [(0, .go (owns 0 0 3))] [2, 4, 5] [(22, .agg #[.int .i64 5000, .slice q6 m6 c6, .slice p6 k6 d6])] (cD (.tuple #[.agg #[.int .i64 ((⟨2, 5, 1000⟩ : Alm).vcpu), .int .i64 ((⟨2, 5, 1000⟩ : Alm).port), .int .i64 ((⟨2, 5, 1000⟩ : Alm).every)], .int .i64 5500, .bool true]) (fun args w => Tryz.call13 args w) (fun w hw => by have := aget_t 5000 q6 m6 c6 (([⟨1, 5500⟩] : List Tim)) p6 k6 d6 (([⟨2, 5, 1000⟩] : List Alm)) 2 w (hO6.atN (A := [_, _]) hw) hO6.len (by omega) (hP6.atN (A := (_ :: _ :: Y6)) hw) hP6.len (by omega) (by omega) (by omega); rw [vkw6] at this; exact this) (mo0 8 [(7, .go (owns 0 0 3))] [2, 4, 5] (fun γ9 => [(7, .int .i64 5500), (8, .bool true)]) (fun γ9 L => bx (γ9 0) (#[.int .i64 ((⟨2, 5, 1000⟩ : Alm).vcpu), .int .i64 ((⟨2, 5, 1000⟩ : Alm).port), .int .i64 ((⟨2, 5, 1000⟩ : Alm).every)]) 32 :: L) (fun γ9 => on_ (ds_ (sq_ (ao_ (qo0 14 [] [4] [(40, .bool true)] ?_))))))))))))
 by_cases q12 : ((kz6 : Nat) : Int) = (1 : Int)
 ·
  refine Ops.pick [[bx (γ9 0) (#[.int .i64 ((⟨2, 5, 1000⟩ : Alm).vcpu), .int .i64 ((⟨2, 5, 1000⟩ : Alm).port), .int .i64 ((⟨2, 5, 1000⟩ : Alm).every)]) 32], [bx (γ7 0) (#[.int .i64 5000, .slice q6 m6 c6, .slice p6 k6 d6]) 27], [bx (γ4 0) (#[.int .i64 0, .slice q3 m3 c3, .slice p3 k3 d3]) 27], Y6, Yx6, Yz6, Y3, Yx3] [0, 1, 2, 5, 3, 4, 6, 7] [] (bx (γ9 0) (#[.int .i64 ((⟨2, 5, 1000⟩ : Alm).vcpu), .int .i64 ((⟨2, 5, 1000⟩ : Alm).port), .int .i64 ((⟨2, 5, 1000⟩ : Alm).every)]) 32 :: bx (γ7 0) (#[.int .i64 5000, .slice q6 m6 c6, .slice p6 k6 d6]) 27 :: bx (γ4 0) (#[.int .i64 0, .slice q3 m3 c3, .slice p3 k3 d3]) 27 :: (Yz6 ++ (Y6 ++ (Yx6 ++ (Y3 ++ (Yx3 ++ [])))))) (by kernel_rfl) rfl rfl ?_
  have hln14 := hZ6.len
  obtain ⟨g14, cs14, rfl, rfl, hOw14⟩ := hZ6.rowOf (i := 0) (by omega)
  refine qo 12 [(16, .yes), (20, .at g14 0 0), (21, .go (ownps 3 (0 + 0 * 4) [.int .i64 ((⟨2, 5, 1500, 3⟩ : Rng).vcpu), .int .i64 ((⟨2, 5, 1500, 3⟩ : Rng).port), .int .i64 ((⟨2, 5, 1500, 3⟩ : Rng).at_), .int .i64 ((⟨2, 5, 1500, 3⟩ : Rng).missed)])), (23, .eqs true)] [] [(0, .bool true)] ([((kz6 : Nat) : Int) = (1 : Int)] ++ ([(some ⟨g14, 0, none⟩ : Option Addr) = some ⟨g14, 0, none⟩, 0 = ((0 : Nat) : Int), 0 < kz6] ++ (acellsP cs14 (0 + 0 * 4) [.int .i64 ((⟨2, 5, 1500, 3⟩ : Rng).vcpu), .int .i64 ((⟨2, 5, 1500, 3⟩ : Rng).port), .int .i64 ((⟨2, 5, 1500, 3⟩ : Rng).at_), .int .i64 ((⟨2, 5, 1500, 3⟩ : Rng).missed)] ++ ([EqRun Tryz.prog .eql 50 (.tmp 48) (.tmp 49) (.agg #[.int .i64 ((⟨2, 5, 1500, 3⟩ : Rng).vcpu), .int .i64 ((⟨2, 5, 1500, 3⟩ : Rng).port), .int .i64 ((⟨2, 5, 1500, 3⟩ : Rng).at_), .int .i64 ((⟨2, 5, 1500, 3⟩ : Rng).missed)]) (.agg #[.int .i64 2, .int .i64 5, .int .i64 1500, .int .i64 3]) true])))) (alA (al1 q12) (alA (al2 rfl (al2 rfl (al1 (by omega)))) (alA (rda_pre ((hOw14.rdx hZ6.len (by rfl))) _ rfl) (al1 (rng_eq_t (a := (⟨2, 5, 1500, 3⟩ : Rng)) (b := (⟨2, 5, 1500, 3⟩ : Rng)) rfl))))) (on_ (ds_ (rt ([]) (.bool true) ?_)))
  exact fun w' hw => ⟨rfl, hw.below⟩
 ·
  refine qo 12 [(16, .no)] [] [(0, .bool false)] ([¬ (((kz6 : Nat) : Int) = (1 : Int))]) (al1 q12) (on_ (ds_ (rt ([]) (.bool false) ?_)))
  exfalso; first | omega | (simp only [List.length_nil] at *; omega)

set_option maxRecDepth 100000 in
theorem copy_t (now : Int) (p : Option Addr) (n cap : Nat) (ts : List Tim) (pa : Option Addr) (na ca : Nat) (rs : List Alm) (w : World)
 (hts : Sv w p ts) (hn : n = ts.length) (hb : n ≤ 1000)
 (hrs : Sv w pa rs) (hna : na = rs.length) (hba : na ≤ 1000)
 : Calls Tryz.prog 10 #[.agg #[.int .i64 now, .slice p n cap, .slice pa na ca]] w fun e w' => ∃ q m c Y q2 m2 c2 X, e = .returned (.agg #[.int .i64 now, .slice q m c, .slice q2 m2 c2]) ∧ SlO 42 Y q m c ts ∧ SlO 32 X q2 m2 c2 rs ∧ Below w.heap.size w w' ∧ Hs w (Y ++ X) w' := by
 refine enter (Hs.start w) Tryz.func10 rfl Tryz.ntmps10 rfl (sq_ (ma0 [] [] (fun γ1 => [(1, .pointer (some ⟨γ1 0, 0, none⟩)), (2, .pointer (some ⟨γ1 1, 0, none⟩))]) (fun γ1 L => bx (γ1 1) (#[.int .i64 0, .slice none 0 0, .slice none 0 0]) 27 :: bx (γ1 0) (#[.int .i64 now, .slice p n cap, .slice pa na ca]) 27 :: L) (fun γ1 => ds_ (sq_ ?_))))
 refine at_any (by kernel_rfl) ?_
 refine tk (m := 11) [1, 2, 6] [] [1, 2] [(5, .pointer (some ⟨γ1 0, 1, none⟩)), (9, .pointer (some ⟨γ1 0, 2, none⟩))] ([]) #[false, true, true, false, false, false, true, false, false, false, false, false, false, false] al0 ?_
 refine any_cutX (V := (List Ob) × (List Ob) × (Nat) × (Nat) × (Option Addr) × (Option Addr) × (Nat → Nat) × (Nat → Nat)) (fun ⟨Y165, Y85, cap165, cap85, p165, p85, γ105, γ5⟩ => SlO 32 Y165 p165 (0 + na) cap165 ([] ++ rs) ∧ SlO 42 Y85 p85 (0 + n) cap85 ([] ++ ts)) 0 #[true, true, true, true, true, true, true, true, true, true, true, true, true, true] (fun ⟨Y165, Y85, cap165, cap85, p165, p85, γ105, γ5⟩ => [(1, .pointer (some ⟨γ1 0, 0, none⟩)), (2, .pointer (some ⟨γ1 1, 0, none⟩))]) (fun ⟨Y165, Y85, cap165, cap85, p165, p85, γ105, γ5⟩ => bx (γ1 1) (#[.int .i64 0, .slice none 0 0, .slice none 0 0]) 27 :: bx (γ1 0) (#[.int .i64 now, .slice p85 (0 + n) cap85, .slice p165 (0 + na) cap165]) 27 :: (Y165 ++ (Y85 ++ []))) ?_ (fun hmx22 => ?_)
 rotate_left
 ·
  refine any_cutX (V := (List Ob) × (List Ob) × (Nat) × (Nat) × (Option Addr) × (Option Addr) × (Nat → Nat) × (Nat → Nat)) (fun ⟨Y165, Y85, cap165, cap85, p165, p85, γ105, γ5⟩ => SlO 32 Y165 p165 (0 + na) cap165 ([] ++ rs) ∧ SlO 42 Y85 p85 (0 + n) cap85 ([] ++ ts)) 1 #[true, true, true, true, true, true, true, true, true, true, true, true, true, false] (fun ⟨Y165, Y85, cap165, cap85, p165, p85, γ105, γ5⟩ => [(1, .pointer (some ⟨γ1 0, 0, none⟩)), (2, .pointer (some ⟨γ1 1, 0, none⟩)), (11, .slice p165 (0 + na) cap165), (14, .pointer (some ⟨γ1 0, 2, none⟩))]) (fun ⟨Y165, Y85, cap165, cap85, p165, p85, γ105, γ5⟩ => bx (γ1 1) (#[.int .i64 0, .slice none 0 0, .slice none 0 0]) 27 :: bx (γ1 0) (#[.int .i64 now, .slice p85 (0 + n) cap85, .slice pa na ca]) 27 :: (Y165 ++ (Y85 ++ []))) ?_ (fun hmx21 => ?_)
  ·
   rintro ⟨Y165, Y85, cap165, cap85, p165, p85, γ105, γ5⟩ ⟨hO165, hO85⟩
   refine a1 13 rfl ?_
   refine mo0 1 [(13, .go (owns 1 2 1))] [1, 2] (fun _ => []) (fun _ L => (L.set 1 (bx (γ1 0) (#[.int .i64 now, .slice p85 (0 + n) cap85, .slice p165 (0 + na) cap165]) 27))) (fun _ => ?_)
   refine od_ ?_
   exact wk (hmx22 (Y165, Y85, cap165, cap85, p165, p85, γ105, γ5) ⟨hO165, hO85⟩) [1, 2] [[_], [_], _, _] [0, 1, 2, 3] rfl rfl
  refine any_cutX (V := (List Ob) × (List Ob) × (Nat) × (Nat) × (Option Addr) × (Option Addr) × (Nat → Nat) × (Nat → Nat)) (fun ⟨Y165, Y85, cap165, cap85, p165, p85, γ105, γ5⟩ => SlO 32 Y165 p165 (0 + na) cap165 ([] ++ rs) ∧ SlO 42 Y85 p85 (0 + n) cap85 ([] ++ ts)) 3 #[true, true, true, true, true, true, true, true, true, true, true, false, false, false] (fun ⟨Y165, Y85, cap165, cap85, p165, p85, γ105, γ5⟩ => [(1, .pointer (some ⟨γ1 0, 0, none⟩)), (2, .pointer (some ⟨γ1 1, 0, none⟩)), (7, .slice p85 (0 + n) cap85), (11, .slice p165 (0 + na) cap165), (13, .pointer (some ⟨γ1 0, 1, none⟩))]) (fun ⟨Y165, Y85, cap165, cap85, p165, p85, γ105, γ5⟩ => bx (γ1 1) (#[.int .i64 0, .slice none 0 0, .slice none 0 0]) 27 :: bx (γ1 0) (#[.int .i64 now, .slice p n cap, .slice pa na ca]) 27 :: (Y165 ++ (Y85 ++ []))) ?_ (fun hmx20 => ?_)
  ·
   rintro ⟨Y165, Y85, cap165, cap85, p165, p85, γ105, γ5⟩ ⟨hO165, hO85⟩
   refine a1 11 rfl ?_
   refine mo0 1 [(11, .go (owns 1 1 1))] [1, 2, 11] (fun _ => []) (fun _ L => (L.set 1 (bx (γ1 0) (#[.int .i64 now, .slice p85 (0 + n) cap85, .slice pa na ca]) 27))) (fun _ => ?_)
   refine od_ ?_
   refine tk (m := 1) [12] [] [1, 2, 11] [(14, .pointer (some ⟨γ1 0, 2, none⟩))] ([]) #[true, true, true, true, true, true, true, true, true, true, true, true, true, false] al0 ?_
   exact wk (hmx21 (Y165, Y85, cap165, cap85, p165, p85, γ105, γ5) ⟨hO165, hO85⟩) [1, 2, 11, 14] [[_], [_], _, _] [0, 1, 2, 3] rfl rfl
  refine any_cutX (V := (List Ob) × (Nat) × (Option Addr) × (Nat → Nat) × (Nat → Nat)) (fun ⟨Y85, cap85, p85, γ105, γ5⟩ => SlO 42 Y85 p85 (0 + n) cap85 ([] ++ ts)) 4 #[true, true, true, true, true, true, true, true, false, true, true, false, false, false] (fun ⟨Y85, cap85, p85, γ105, γ5⟩ => [(1, .pointer (some ⟨γ1 0, 0, none⟩)), (2, .pointer (some ⟨γ1 1, 0, none⟩)), (7, .slice p85 (0 + n) cap85), (8, .slice (some ⟨γ105 0, 0, none⟩) 0 0), (10, .slice pa na ca), (13, .pointer (some ⟨γ1 0, 1, none⟩))]) (fun ⟨Y85, cap85, p85, γ105, γ5⟩ => bx (γ105 0) (#[]) 32 :: bx (γ1 1) (#[.int .i64 0, .slice none 0 0, .slice none 0 0]) 27 :: bx (γ1 0) (#[.int .i64 now, .slice p n cap, .slice pa na ca]) 27 :: (Y85 ++ [])) ?_ (fun hmx19 => ?_)
  ·
   rintro ⟨Y85, cap85, p85, γ105, γ5⟩ hO85
   refine a1 8 rfl ?_
   refine ops_append (α := Alm) [bx (γ1 1) (#[.int .i64 0, .slice none 0 0, .slice none 0 0]) 27, bx (γ1 0) (#[.int .i64 now, .slice p n cap, .slice pa na ca]) 27] ([bx (γ105 0) (#[]) 32]) ((Y85 ++ [])) (mvE rfl) rfl (by kernel_rfl) (by kernel_rfl) (p := (some ⟨γ105 0, 0, none⟩)) (n := 0) (cap := 0) (m := na) (yv := .slice pa na ca) (by kernel_rfl) (by kernel_rfl) (T := 32) (by_ := 24) (by kernel_rfl) ([]) rs (SlO.lit (by rfl) (by rfl) (by simp [maxLen])) (fun w hw => src_svn Tryz.underlying25 (hrs.kept hw.below) hna) hna (by have hmx : maxLen = 9223372036854775807 := rfl; omega) (by have hmx : maxLen = 9223372036854775807 := rfl; omega) (fun Y165 p165 cap165 hO165 => ?_)
   refine od_ ?_
   exact wk (hmx20 (Y165, Y85, cap165, cap85, p165, p85, γ105, γ5) ⟨hO165, hO85⟩) [1, 2, 7, 11, 13] [[_], [_], _, _] [0, 1, 2, 3] rfl rfl
  refine any_cutX (V := (List Ob) × (Nat) × (Option Addr) × (Nat → Nat)) (fun ⟨Y85, cap85, p85, γ5⟩ => SlO 42 Y85 p85 (0 + n) cap85 ([] ++ ts)) 5 #[true, true, true, true, true, false, true, true, false, true, true, false, false, false] (fun ⟨Y85, cap85, p85, γ5⟩ => [(1, .pointer (some ⟨γ1 0, 0, none⟩)), (2, .pointer (some ⟨γ1 1, 0, none⟩)), (7, .slice p85 (0 + n) cap85), (10, .slice pa na ca), (13, .pointer (some ⟨γ1 0, 1, none⟩))]) (fun ⟨Y85, cap85, p85, γ5⟩ => bx (γ1 1) (#[.int .i64 0, .slice none 0 0, .slice none 0 0]) 27 :: bx (γ1 0) (#[.int .i64 now, .slice p n cap, .slice pa na ca]) 27 :: (Y85 ++ [])) ?_ (fun hmx18 => ?_)
  ·
   rintro ⟨Y85, cap85, p85, γ5⟩ hO85
   refine a1 5 rfl ?_
   refine mo0 1 [] [1, 2, 7, 10, 13] (fun γ105 => [(8, .slice (some ⟨γ105 0, 0, none⟩) 0 0)]) (fun γ105 L => bx (γ105 0) (#[]) 32 :: L) (fun γ105 => ?_)
   refine od_ ?_
   exact wk (hmx19 (Y85, cap85, p85, γ105, γ5) hO85) [1, 2, 7, 8, 10, 13] [[_], [_], [_], _] [0, 1, 2, 3] rfl rfl
  refine any_cutX (V := (Nat → Nat) × (Nat → Nat)) (fun ⟨γ105, γ5⟩ => True) 7 #[true, true, true, true, false, true, true, true, false, false, false, false, false, false] (fun ⟨γ105, γ5⟩ => [(1, .pointer (some ⟨γ1 0, 0, none⟩)), (2, .pointer (some ⟨γ1 1, 0, none⟩)), (3, .slice (some ⟨γ5 0, 0, none⟩) 0 0), (6, .slice p n cap), (8, .slice (some ⟨γ105 0, 0, none⟩) 0 0), (10, .slice pa na ca)]) (fun ⟨γ105, γ5⟩ => [bx (γ105 0) (#[]) 32, bx (γ5 0) (#[]) 42, bx (γ1 1) (#[.int .i64 0, .slice none 0 0, .slice none 0 0]) 27, bx (γ1 0) (#[.int .i64 now, .slice p n cap, .slice pa na ca]) 27]) ?_ (fun hmx17 => ?_)
  ·
   rintro ⟨γ105, γ5⟩ _
   refine a1 4 rfl ?_
   refine Ops.pick [[bx (γ105 0) (#[]) 32], [bx (γ5 0) (#[]) 42], [bx (γ1 1) (#[.int .i64 0, .slice none 0 0, .slice none 0 0]) 27], [bx (γ1 0) (#[.int .i64 now, .slice p n cap, .slice pa na ca]) 27]] [1, 0, 2, 3] [] ([bx (γ5 0) (#[]) 42, bx (γ105 0) (#[]) 32, bx (γ1 1) (#[.int .i64 0, .slice none 0 0, .slice none 0 0]) 27, bx (γ1 0) (#[.int .i64 now, .slice p n cap, .slice pa na ca]) 27]) (by kernel_rfl) rfl rfl (ops_append (α := Tim) [bx (γ105 0) (#[]) 32, bx (γ1 1) (#[.int .i64 0, .slice none 0 0, .slice none 0 0]) 27, bx (γ1 0) (#[.int .i64 now, .slice p n cap, .slice pa na ca]) 27] ([bx (γ5 0) (#[]) 42]) ([]) (mvE rfl) rfl (by kernel_rfl) (by kernel_rfl) (p := (some ⟨γ5 0, 0, none⟩)) (n := 0) (cap := 0) (m := n) (yv := .slice p n cap) (by kernel_rfl) (by kernel_rfl) (T := 42) (by_ := 16) (by kernel_rfl) ([]) ts (SlO.lit (by rfl) (by rfl) (by simp [maxLen])) (fun w hw => src_svn Tryz.underlying22 (hts.kept hw.below) hn) hn (by have hmx : maxLen = 9223372036854775807 := rfl; omega) (by have hmx : maxLen = 9223372036854775807 := rfl; omega) (fun Y85 p85 cap85 hO85 => ?_))
   refine od_ ?_
   refine tk (m := 4) [9, 10] [] [1, 2, 7, 8, 10] [(13, .pointer (some ⟨γ1 0, 1, none⟩))] ([]) #[true, true, true, true, true, true, true, true, false, true, true, false, false, false] al0 ?_
   exact wk (hmx19 (Y85, cap85, p85, γ105, γ5) hO85) [1, 2, 7, 8, 10, 13] [[_], [_], [_], _] [0, 1, 2, 3] rfl rfl
  refine any_cutX (V := (List Ob) × (Nat) × (Option Addr) × (Nat → Nat) × (Nat → Nat)) (fun ⟨Y85, cap85, p85, γ105, γ5⟩ => SlO 42 Y85 p85 (0 + n) cap85 ([] ++ ts)) 7 #[true, true, true, true, true, true, true, false, false, false, false, false, false, false] (fun ⟨Y85, cap85, p85, γ105, γ5⟩ => [(1, .pointer (some ⟨γ1 0, 0, none⟩)), (2, .pointer (some ⟨γ1 1, 0, none⟩)), (7, .slice p85 (0 + n) cap85), (8, .slice (some ⟨γ105 0, 0, none⟩) 0 0), (9, .pointer (some ⟨γ1 0, 2, none⟩))]) (fun ⟨Y85, cap85, p85, γ105, γ5⟩ => bx (γ105 0) (#[]) 32 :: bx (γ1 1) (#[.int .i64 0, .slice none 0 0, .slice none 0 0]) 27 :: bx (γ1 0) (#[.int .i64 now, .slice p n cap, .slice pa na ca]) 27 :: (Y85 ++ [])) ?_ (fun hmx16 => ?_)
  ·
   rintro ⟨Y85, cap85, p85, γ105, γ5⟩ hO85
   refine a1 7 rfl ?_
   refine qo0 1 [(7, .go (owns 2 2 1))] [1, 2, 7, 8] [(10, .slice pa na ca)] ?_
   refine od_ ?_
   refine tk (m := 4) [9, 10] [] [1, 2, 7, 8, 10] [(13, .pointer (some ⟨γ1 0, 1, none⟩))] ([]) #[true, true, true, true, true, true, true, true, false, true, true, false, false, false] al0 ?_
   exact wk (hmx19 (Y85, cap85, p85, γ105, γ5) hO85) [1, 2, 7, 8, 10, 13] [[_], [_], [_], _] [0, 1, 2, 3] rfl rfl
  refine any_cutX (V := (Nat → Nat)) (fun γ105 => True) 8 #[false, true, true, true, false, true, true, true, false, false, false, false, false, false] (fun γ105 => [(1, .pointer (some ⟨γ1 0, 0, none⟩)), (2, .pointer (some ⟨γ1 1, 0, none⟩)), (6, .slice p n cap), (8, .slice (some ⟨γ105 0, 0, none⟩) 0 0), (10, .slice pa na ca)]) (fun γ105 => [bx (γ105 0) (#[]) 32, bx (γ1 1) (#[.int .i64 0, .slice none 0 0, .slice none 0 0]) 27, bx (γ1 0) (#[.int .i64 now, .slice p n cap, .slice pa na ca]) 27]) ?_ (fun hmx15 => ?_)
  ·
   rintro γ105 _
   refine a1 0 rfl ?_
   refine mo0 1 [] [1, 2, 6, 8, 10] (fun γ5 => [(3, .slice (some ⟨γ5 0, 0, none⟩) 0 0)]) (fun γ5 L => bx (γ5 0) (#[]) 42 :: L) (fun γ5 => ?_)
   refine od_ ?_
   exact wk (hmx17 (γ105, γ5) trivial) [1, 2, 3, 6, 8, 10] [[_], [_], [_], [_]] [1, 0, 2, 3] rfl rfl
  refine any_cutX (V := (Nat → Nat) × (Nat → Nat)) (fun ⟨γ105, γ5⟩ => True) 8 #[true, true, true, false, false, true, true, true, false, false, false, false, false, false] (fun ⟨γ105, γ5⟩ => [(1, .pointer (some ⟨γ1 0, 0, none⟩)), (2, .pointer (some ⟨γ1 1, 0, none⟩)), (3, .slice (some ⟨γ5 0, 0, none⟩) 0 0), (5, .pointer (some ⟨γ1 0, 1, none⟩)), (8, .slice (some ⟨γ105 0, 0, none⟩) 0 0), (10, .slice pa na ca)]) (fun ⟨γ105, γ5⟩ => [bx (γ105 0) (#[]) 32, bx (γ5 0) (#[]) 42, bx (γ1 1) (#[.int .i64 0, .slice none 0 0, .slice none 0 0]) 27, bx (γ1 0) (#[.int .i64 now, .slice p n cap, .slice pa na ca]) 27]) ?_ (fun hmx14 => ?_)
  ·
   rintro ⟨γ105, γ5⟩ _
   refine a1 3 rfl ?_
   refine qo0 1 [(3, .go (owns 3 1 1))] [1, 2, 3, 8, 10] [(6, .slice p n cap)] ?_
   refine od_ ?_
   exact wk (hmx17 (γ105, γ5) trivial) [1, 2, 3, 6, 8, 10] [[_], [_], [_], [_]] [0, 1, 2, 3] rfl rfl
  refine any_cutX (V := (Nat → Nat)) (fun γ5 => True) 8 #[true, true, true, true, false, false, true, true, false, false, false, false, false, false] (fun γ5 => [(1, .pointer (some ⟨γ1 0, 0, none⟩)), (2, .pointer (some ⟨γ1 1, 0, none⟩)), (3, .slice (some ⟨γ5 0, 0, none⟩) 0 0), (6, .slice p n cap), (10, .slice pa na ca)]) (fun γ5 => [bx (γ5 0) (#[]) 42, bx (γ1 1) (#[.int .i64 0, .slice none 0 0, .slice none 0 0]) 27, bx (γ1 0) (#[.int .i64 now, .slice p n cap, .slice pa na ca]) 27]) ?_ (fun hmx13 => ?_)
  ·
   rintro γ5 _
   refine any_fork [4, 5] (by kernel_rfl) (by simp) (each_cons _ rfl ?_ (each_cons _ rfl ?_ (each_nil)))
   ·
    refine ops_append (α := Tim) [bx (γ1 1) (#[.int .i64 0, .slice none 0 0, .slice none 0 0]) 27, bx (γ1 0) (#[.int .i64 now, .slice p n cap, .slice pa na ca]) 27] ([bx (γ5 0) (#[]) 42]) ([]) (mvE rfl) rfl (by kernel_rfl) (by kernel_rfl) (p := (some ⟨γ5 0, 0, none⟩)) (n := 0) (cap := 0) (m := n) (yv := .slice p n cap) (by kernel_rfl) (by kernel_rfl) (T := 42) (by_ := 16) (by kernel_rfl) ([]) ts (SlO.lit (by rfl) (by rfl) (by simp [maxLen])) (fun w hw => src_svn Tryz.underlying22 (hts.kept hw.below) hn) hn (by have hmx : maxLen = 9223372036854775807 := rfl; omega) (by have hmx : maxLen = 9223372036854775807 := rfl; omega) (fun Y85 p85 cap85 hO85 => ?_)
    refine od_ ?_
    refine tk (m := 5) [9, 10] [] [1, 2, 7, 10] [(13, .pointer (some ⟨γ1 0, 1, none⟩))] ([]) #[true, true, true, true, true, false, true, true, false, true, true, false, false, false] al0 ?_
    exact wk (hmx18 (Y85, cap85, p85, γ5) hO85) [1, 2, 7, 10, 13] [[_], [_], _] [0, 1, 2] rfl rfl
   ·
    refine mo0 1 [] [1, 2, 3, 6, 10] (fun γ105 => [(8, .slice (some ⟨γ105 0, 0, none⟩) 0 0)]) (fun γ105 L => bx (γ105 0) (#[]) 32 :: L) (fun γ105 => ?_)
    refine od_ ?_
    exact wk (hmx17 (γ105, γ5) trivial) [1, 2, 3, 6, 8, 10] [[_], [_], [_], [_]] [0, 1, 2, 3] rfl rfl
  refine any_cutX (V := (Nat → Nat) × (Nat → Nat)) (fun ⟨γ105, γ5⟩ => True) 8 #[true, true, true, true, false, true, true, false, false, false, false, false, false, false] (fun ⟨γ105, γ5⟩ => [(1, .pointer (some ⟨γ1 0, 0, none⟩)), (2, .pointer (some ⟨γ1 1, 0, none⟩)), (3, .slice (some ⟨γ5 0, 0, none⟩) 0 0), (6, .slice p n cap), (8, .slice (some ⟨γ105 0, 0, none⟩) 0 0), (9, .pointer (some ⟨γ1 0, 2, none⟩))]) (fun ⟨γ105, γ5⟩ => [bx (γ105 0) (#[]) 32, bx (γ5 0) (#[]) 42, bx (γ1 1) (#[.int .i64 0, .slice none 0 0, .slice none 0 0]) 27, bx (γ1 0) (#[.int .i64 now, .slice p n cap, .slice pa na ca]) 27]) ?_ (fun hmx12 => ?_)
  ·
   rintro ⟨γ105, γ5⟩ _
   refine any_fork [4, 7] (by kernel_rfl) (by simp) (each_cons _ rfl ?_ (each_cons _ rfl ?_ (each_nil)))
   ·
    refine Ops.pick [[bx (γ105 0) (#[]) 32], [bx (γ5 0) (#[]) 42], [bx (γ1 1) (#[.int .i64 0, .slice none 0 0, .slice none 0 0]) 27], [bx (γ1 0) (#[.int .i64 now, .slice p n cap, .slice pa na ca]) 27]] [1, 0, 2, 3] [] ([bx (γ5 0) (#[]) 42, bx (γ105 0) (#[]) 32, bx (γ1 1) (#[.int .i64 0, .slice none 0 0, .slice none 0 0]) 27, bx (γ1 0) (#[.int .i64 now, .slice p n cap, .slice pa na ca]) 27]) (by kernel_rfl) rfl rfl (ops_append (α := Tim) [bx (γ105 0) (#[]) 32, bx (γ1 1) (#[.int .i64 0, .slice none 0 0, .slice none 0 0]) 27, bx (γ1 0) (#[.int .i64 now, .slice p n cap, .slice pa na ca]) 27] ([bx (γ5 0) (#[]) 42]) ([]) (mvE rfl) rfl (by kernel_rfl) (by kernel_rfl) (p := (some ⟨γ5 0, 0, none⟩)) (n := 0) (cap := 0) (m := n) (yv := .slice p n cap) (by kernel_rfl) (by kernel_rfl) (T := 42) (by_ := 16) (by kernel_rfl) ([]) ts (SlO.lit (by rfl) (by rfl) (by simp [maxLen])) (fun w hw => src_svn Tryz.underlying22 (hts.kept hw.below) hn) hn (by have hmx : maxLen = 9223372036854775807 := rfl; omega) (by have hmx : maxLen = 9223372036854775807 := rfl; omega) (fun Y85 p85 cap85 hO85 => ?_))
    refine od_ ?_
    exact wk (hmx16 (Y85, cap85, p85, γ105, γ5) hO85) [1, 2, 7, 8, 9] [[_], [_], [_], _] [0, 1, 2, 3] rfl rfl
   ·
    refine qo0 1 [(7, .go (owns 3 2 1))] [1, 2, 3, 6, 8] [(10, .slice pa na ca)] ?_
    refine od_ ?_
    exact wk (hmx17 (γ105, γ5) trivial) [1, 2, 3, 6, 8, 10] [[_], [_], [_], [_]] [0, 1, 2, 3] rfl rfl
  refine any_cutX (V := (List Ob) × (Nat) × (Option Addr) × (Nat → Nat)) (fun ⟨Y85, cap85, p85, γ5⟩ => SlO 42 Y85 p85 (0 + n) cap85 ([] ++ ts)) 8 #[true, true, true, true, true, false, true, false, false, false, false, false, false, false] (fun ⟨Y85, cap85, p85, γ5⟩ => [(1, .pointer (some ⟨γ1 0, 0, none⟩)), (2, .pointer (some ⟨γ1 1, 0, none⟩)), (7, .slice p85 (0 + n) cap85), (9, .pointer (some ⟨γ1 0, 2, none⟩))]) (fun ⟨Y85, cap85, p85, γ5⟩ => bx (γ1 1) (#[.int .i64 0, .slice none 0 0, .slice none 0 0]) 27 :: bx (γ1 0) (#[.int .i64 now, .slice p n cap, .slice pa na ca]) 27 :: (Y85 ++ [])) ?_ (fun hmx11 => ?_)
  ·
   rintro ⟨Y85, cap85, p85, γ5⟩ hO85
   refine any_fork [5, 7] (by kernel_rfl) (by simp) (each_cons _ rfl ?_ (each_cons _ rfl ?_ (each_nil)))
   ·
    refine mo0 1 [] [1, 2, 7, 9] (fun γ105 => [(8, .slice (some ⟨γ105 0, 0, none⟩) 0 0)]) (fun γ105 L => bx (γ105 0) (#[]) 32 :: L) (fun γ105 => ?_)
    refine od_ ?_
    exact wk (hmx16 (Y85, cap85, p85, γ105, γ5) hO85) [1, 2, 7, 8, 9] [[_], [_], [_], _] [0, 1, 2, 3] rfl rfl
   ·
    refine qo0 1 [(7, .go (owns 1 2 1))] [1, 2, 7] [(10, .slice pa na ca)] ?_
    refine od_ ?_
    refine tk (m := 5) [9, 10] [] [1, 2, 7, 10] [(13, .pointer (some ⟨γ1 0, 1, none⟩))] ([]) #[true, true, true, true, true, false, true, true, false, true, true, false, false, false] al0 ?_
    exact wk (hmx18 (Y85, cap85, p85, γ5) hO85) [1, 2, 7, 10, 13] [[_], [_], _] [0, 1, 2] rfl rfl
  refine any_cutX (V := (Nat → Nat)) (fun γ105 => True) 9 #[false, true, true, false, false, true, true, true, false, false, false, false, false, false] (fun γ105 => [(1, .pointer (some ⟨γ1 0, 0, none⟩)), (2, .pointer (some ⟨γ1 1, 0, none⟩)), (5, .pointer (some ⟨γ1 0, 1, none⟩)), (8, .slice (some ⟨γ105 0, 0, none⟩) 0 0), (10, .slice pa na ca)]) (fun γ105 => [bx (γ105 0) (#[]) 32, bx (γ1 1) (#[.int .i64 0, .slice none 0 0, .slice none 0 0]) 27, bx (γ1 0) (#[.int .i64 now, .slice p n cap, .slice pa na ca]) 27]) ?_ (fun hmx10 => ?_)
  ·
   rintro γ105 _
   refine any_fork [0, 3] (by kernel_rfl) (by simp) (each_cons _ rfl ?_ (each_cons _ rfl ?_ (each_nil)))
   ·
    refine mo0 1 [] [1, 2, 5, 8, 10] (fun γ5 => [(3, .slice (some ⟨γ5 0, 0, none⟩) 0 0)]) (fun γ5 L => bx (γ5 0) (#[]) 42 :: L) (fun γ5 => ?_)
    refine od_ ?_
    exact wk (hmx14 (γ105, γ5) trivial) [1, 2, 3, 5, 8, 10] [[_], [_], [_], [_]] [1, 0, 2, 3] rfl rfl
   ·
    refine qo0 1 [(3, .go (owns 2 1 1))] [1, 2, 8, 10] [(6, .slice p n cap)] ?_
    refine od_ ?_
    exact wk (hmx15 γ105 trivial) [1, 2, 6, 8, 10] [[_], [_], [_]] [0, 1, 2] rfl rfl
  refine any_cutX (V := Unit) (fun _ => True) 9 #[false, true, true, true, false, false, true, true, false, false, false, false, false, false] (fun _ => [(1, .pointer (some ⟨γ1 0, 0, none⟩)), (2, .pointer (some ⟨γ1 1, 0, none⟩)), (6, .slice p n cap), (10, .slice pa na ca)]) (fun _ => [bx (γ1 1) (#[.int .i64 0, .slice none 0 0, .slice none 0 0]) 27, bx (γ1 0) (#[.int .i64 now, .slice p n cap, .slice pa na ca]) 27]) ?_ (fun hmx9 => ?_)
  ·
   rintro _ _
   refine any_fork [0, 5] (by kernel_rfl) (by simp) (each_cons _ rfl ?_ (each_cons _ rfl ?_ (each_nil)))
   ·
    refine mo0 1 [] [1, 2, 6, 10] (fun γ5 => [(3, .slice (some ⟨γ5 0, 0, none⟩) 0 0)]) (fun γ5 L => bx (γ5 0) (#[]) 42 :: L) (fun γ5 => ?_)
    refine od_ ?_
    exact wk (hmx13 γ5 trivial) [1, 2, 3, 6, 10] [[_], [_], [_]] [0, 1, 2] rfl rfl
   ·
    refine mo0 1 [] [1, 2, 6, 10] (fun γ105 => [(8, .slice (some ⟨γ105 0, 0, none⟩) 0 0)]) (fun γ105 L => bx (γ105 0) (#[]) 32 :: L) (fun γ105 => ?_)
    refine od_ ?_
    exact wk (hmx15 γ105 trivial) [1, 2, 6, 8, 10] [[_], [_], [_]] [0, 1, 2] rfl rfl
  refine any_cutX (V := (Nat → Nat)) (fun γ105 => True) 9 #[false, true, true, true, false, true, true, false, false, false, false, false, false, false] (fun γ105 => [(1, .pointer (some ⟨γ1 0, 0, none⟩)), (2, .pointer (some ⟨γ1 1, 0, none⟩)), (6, .slice p n cap), (8, .slice (some ⟨γ105 0, 0, none⟩) 0 0), (9, .pointer (some ⟨γ1 0, 2, none⟩))]) (fun γ105 => [bx (γ105 0) (#[]) 32, bx (γ1 1) (#[.int .i64 0, .slice none 0 0, .slice none 0 0]) 27, bx (γ1 0) (#[.int .i64 now, .slice p n cap, .slice pa na ca]) 27]) ?_ (fun hmx8 => ?_)
  ·
   rintro γ105 _
   refine any_fork [0, 7] (by kernel_rfl) (by simp) (each_cons _ rfl ?_ (each_cons _ rfl ?_ (each_nil)))
   ·
    refine mo0 1 [] [1, 2, 6, 8, 9] (fun γ5 => [(3, .slice (some ⟨γ5 0, 0, none⟩) 0 0)]) (fun γ5 L => bx (γ5 0) (#[]) 42 :: L) (fun γ5 => ?_)
    refine od_ ?_
    exact wk (hmx12 (γ105, γ5) trivial) [1, 2, 3, 6, 8, 9] [[_], [_], [_], [_]] [1, 0, 2, 3] rfl rfl
   ·
    refine qo0 1 [(7, .go (owns 2 2 1))] [1, 2, 6, 8] [(10, .slice pa na ca)] ?_
    refine od_ ?_
    exact wk (hmx15 γ105 trivial) [1, 2, 6, 8, 10] [[_], [_], [_]] [0, 1, 2] rfl rfl
  refine any_cutX (V := (Nat → Nat)) (fun γ5 => True) 9 #[true, true, true, false, false, false, true, true, false, false, false, false, false, false] (fun γ5 => [(1, .pointer (some ⟨γ1 0, 0, none⟩)), (2, .pointer (some ⟨γ1 1, 0, none⟩)), (3, .slice (some ⟨γ5 0, 0, none⟩) 0 0), (5, .pointer (some ⟨γ1 0, 1, none⟩)), (10, .slice pa na ca)]) (fun γ5 => [bx (γ5 0) (#[]) 42, bx (γ1 1) (#[.int .i64 0, .slice none 0 0, .slice none 0 0]) 27, bx (γ1 0) (#[.int .i64 now, .slice p n cap, .slice pa na ca]) 27]) ?_ (fun hmx7 => ?_)
  ·
   rintro γ5 _
   refine any_fork [3, 5] (by kernel_rfl) (by simp) (each_cons _ rfl ?_ (each_cons _ rfl ?_ (each_nil)))
   ·
    refine qo0 1 [(3, .go (owns 2 1 1))] [1, 2, 3, 10] [(6, .slice p n cap)] ?_
    refine od_ ?_
    exact wk (hmx13 γ5 trivial) [1, 2, 3, 6, 10] [[_], [_], [_]] [0, 1, 2] rfl rfl
   ·
    refine mo0 1 [] [1, 2, 3, 5, 10] (fun γ105 => [(8, .slice (some ⟨γ105 0, 0, none⟩) 0 0)]) (fun γ105 L => bx (γ105 0) (#[]) 32 :: L) (fun γ105 => ?_)
    refine od_ ?_
    exact wk (hmx14 (γ105, γ5) trivial) [1, 2, 3, 5, 8, 10] [[_], [_], [_], [_]] [0, 1, 2, 3] rfl rfl
  refine any_cutX (V := (Nat → Nat) × (Nat → Nat)) (fun ⟨γ105, γ5⟩ => True) 9 #[true, true, true, false, false, true, true, false, false, false, false, false, false, false] (fun ⟨γ105, γ5⟩ => [(1, .pointer (some ⟨γ1 0, 0, none⟩)), (2, .pointer (some ⟨γ1 1, 0, none⟩)), (3, .slice (some ⟨γ5 0, 0, none⟩) 0 0), (5, .pointer (some ⟨γ1 0, 1, none⟩)), (8, .slice (some ⟨γ105 0, 0, none⟩) 0 0), (9, .pointer (some ⟨γ1 0, 2, none⟩))]) (fun ⟨γ105, γ5⟩ => [bx (γ105 0) (#[]) 32, bx (γ5 0) (#[]) 42, bx (γ1 1) (#[.int .i64 0, .slice none 0 0, .slice none 0 0]) 27, bx (γ1 0) (#[.int .i64 now, .slice p n cap, .slice pa na ca]) 27]) ?_ (fun hmx6 => ?_)
  ·
   rintro ⟨γ105, γ5⟩ _
   refine any_fork [3, 7] (by kernel_rfl) (by simp) (each_cons _ rfl ?_ (each_cons _ rfl ?_ (each_nil)))
   ·
    refine qo0 1 [(3, .go (owns 3 1 1))] [1, 2, 3, 8, 9] [(6, .slice p n cap)] ?_
    refine od_ ?_
    exact wk (hmx12 (γ105, γ5) trivial) [1, 2, 3, 6, 8, 9] [[_], [_], [_], [_]] [0, 1, 2, 3] rfl rfl
   ·
    refine qo0 1 [(7, .go (owns 3 2 1))] [1, 2, 3, 5, 8] [(10, .slice pa na ca)] ?_
    refine od_ ?_
    exact wk (hmx14 (γ105, γ5) trivial) [1, 2, 3, 5, 8, 10] [[_], [_], [_], [_]] [0, 1, 2, 3] rfl rfl
  refine any_cutX (V := (Nat → Nat)) (fun γ5 => True) 9 #[true, true, true, true, false, false, true, false, false, false, false, false, false, false] (fun γ5 => [(1, .pointer (some ⟨γ1 0, 0, none⟩)), (2, .pointer (some ⟨γ1 1, 0, none⟩)), (3, .slice (some ⟨γ5 0, 0, none⟩) 0 0), (6, .slice p n cap), (9, .pointer (some ⟨γ1 0, 2, none⟩))]) (fun γ5 => [bx (γ5 0) (#[]) 42, bx (γ1 1) (#[.int .i64 0, .slice none 0 0, .slice none 0 0]) 27, bx (γ1 0) (#[.int .i64 now, .slice p n cap, .slice pa na ca]) 27]) ?_ (fun hmx5 => ?_)
  ·
   rintro γ5 _
   refine any_fork [4, 5, 7] (by kernel_rfl) (by simp) (each_cons _ rfl ?_ (each_cons _ rfl ?_ (each_cons _ rfl ?_ (each_nil))))
   ·
    refine ops_append (α := Tim) [bx (γ1 1) (#[.int .i64 0, .slice none 0 0, .slice none 0 0]) 27, bx (γ1 0) (#[.int .i64 now, .slice p n cap, .slice pa na ca]) 27] ([bx (γ5 0) (#[]) 42]) ([]) (mvE rfl) rfl (by kernel_rfl) (by kernel_rfl) (p := (some ⟨γ5 0, 0, none⟩)) (n := 0) (cap := 0) (m := n) (yv := .slice p n cap) (by kernel_rfl) (by kernel_rfl) (T := 42) (by_ := 16) (by kernel_rfl) ([]) ts (SlO.lit (by rfl) (by rfl) (by simp [maxLen])) (fun w hw => src_svn Tryz.underlying22 (hts.kept hw.below) hn) hn (by have hmx : maxLen = 9223372036854775807 := rfl; omega) (by have hmx : maxLen = 9223372036854775807 := rfl; omega) (fun Y85 p85 cap85 hO85 => ?_)
    refine od_ ?_
    exact wk (hmx11 (Y85, cap85, p85, γ5) hO85) [1, 2, 7, 9] [[_], [_], _] [0, 1, 2] rfl rfl
   ·
    refine mo0 1 [] [1, 2, 3, 6, 9] (fun γ105 => [(8, .slice (some ⟨γ105 0, 0, none⟩) 0 0)]) (fun γ105 L => bx (γ105 0) (#[]) 32 :: L) (fun γ105 => ?_)
    refine od_ ?_
    exact wk (hmx12 (γ105, γ5) trivial) [1, 2, 3, 6, 8, 9] [[_], [_], [_], [_]] [0, 1, 2, 3] rfl rfl
   ·
    refine qo0 1 [(7, .go (owns 2 2 1))] [1, 2, 3, 6] [(10, .slice pa na ca)] ?_
    refine od_ ?_
    exact wk (hmx13 γ5 trivial) [1, 2, 3, 6, 10] [[_], [_], [_]] [0, 1, 2] rfl rfl
  refine any_cutX (V := Unit) (fun _ => True) 10 #[false, true, true, false, false, false, true, true, false, false, false, false, false, false] (fun _ => [(1, .pointer (some ⟨γ1 0, 0, none⟩)), (2, .pointer (some ⟨γ1 1, 0, none⟩)), (5, .pointer (some ⟨γ1 0, 1, none⟩)), (10, .slice pa na ca)]) (fun _ => [bx (γ1 1) (#[.int .i64 0, .slice none 0 0, .slice none 0 0]) 27, bx (γ1 0) (#[.int .i64 now, .slice p n cap, .slice pa na ca]) 27]) ?_ (fun hmx4 => ?_)
  ·
   rintro _ _
   refine any_fork [0, 3, 5] (by kernel_rfl) (by simp) (each_cons _ rfl ?_ (each_cons _ rfl ?_ (each_cons _ rfl ?_ (each_nil))))
   ·
    refine mo0 1 [] [1, 2, 5, 10] (fun γ5 => [(3, .slice (some ⟨γ5 0, 0, none⟩) 0 0)]) (fun γ5 L => bx (γ5 0) (#[]) 42 :: L) (fun γ5 => ?_)
    refine od_ ?_
    exact wk (hmx7 γ5 trivial) [1, 2, 3, 5, 10] [[_], [_], [_]] [0, 1, 2] rfl rfl
   ·
    refine qo0 1 [(3, .go (owns 1 1 1))] [1, 2, 10] [(6, .slice p n cap)] ?_
    refine od_ ?_
    exact wk (hmx9 () trivial) [1, 2, 6, 10] [[_], [_]] [0, 1] rfl rfl
   ·
    refine mo0 1 [] [1, 2, 5, 10] (fun γ105 => [(8, .slice (some ⟨γ105 0, 0, none⟩) 0 0)]) (fun γ105 L => bx (γ105 0) (#[]) 32 :: L) (fun γ105 => ?_)
    refine od_ ?_
    exact wk (hmx10 γ105 trivial) [1, 2, 5, 8, 10] [[_], [_], [_]] [0, 1, 2] rfl rfl
  refine any_cutX (V := (Nat → Nat)) (fun γ105 => True) 10 #[false, true, true, false, false, true, true, false, false, false, false, false, false, false] (fun γ105 => [(1, .pointer (some ⟨γ1 0, 0, none⟩)), (2, .pointer (some ⟨γ1 1, 0, none⟩)), (5, .pointer (some ⟨γ1 0, 1, none⟩)), (8, .slice (some ⟨γ105 0, 0, none⟩) 0 0), (9, .pointer (some ⟨γ1 0, 2, none⟩))]) (fun γ105 => [bx (γ105 0) (#[]) 32, bx (γ1 1) (#[.int .i64 0, .slice none 0 0, .slice none 0 0]) 27, bx (γ1 0) (#[.int .i64 now, .slice p n cap, .slice pa na ca]) 27]) ?_ (fun hmx3 => ?_)
  ·
   rintro γ105 _
   refine any_fork [0, 3, 7] (by kernel_rfl) (by simp) (each_cons _ rfl ?_ (each_cons _ rfl ?_ (each_cons _ rfl ?_ (each_nil))))
   ·
    refine mo0 1 [] [1, 2, 5, 8, 9] (fun γ5 => [(3, .slice (some ⟨γ5 0, 0, none⟩) 0 0)]) (fun γ5 L => bx (γ5 0) (#[]) 42 :: L) (fun γ5 => ?_)
    refine od_ ?_
    exact wk (hmx6 (γ105, γ5) trivial) [1, 2, 3, 5, 8, 9] [[_], [_], [_], [_]] [1, 0, 2, 3] rfl rfl
   ·
    refine qo0 1 [(3, .go (owns 2 1 1))] [1, 2, 8, 9] [(6, .slice p n cap)] ?_
    refine od_ ?_
    exact wk (hmx8 γ105 trivial) [1, 2, 6, 8, 9] [[_], [_], [_]] [0, 1, 2] rfl rfl
   ·
    refine qo0 1 [(7, .go (owns 2 2 1))] [1, 2, 5, 8] [(10, .slice pa na ca)] ?_
    refine od_ ?_
    exact wk (hmx10 γ105 trivial) [1, 2, 5, 8, 10] [[_], [_], [_]] [0, 1, 2] rfl rfl
  refine any_cutX (V := Unit) (fun _ => True) 10 #[false, true, true, true, false, false, true, false, false, false, false, false, false, false] (fun _ => [(1, .pointer (some ⟨γ1 0, 0, none⟩)), (2, .pointer (some ⟨γ1 1, 0, none⟩)), (6, .slice p n cap), (9, .pointer (some ⟨γ1 0, 2, none⟩))]) (fun _ => [bx (γ1 1) (#[.int .i64 0, .slice none 0 0, .slice none 0 0]) 27, bx (γ1 0) (#[.int .i64 now, .slice p n cap, .slice pa na ca]) 27]) ?_ (fun hmx2 => ?_)
  ·
   rintro _ _
   refine any_fork [0, 5, 7] (by kernel_rfl) (by simp) (each_cons _ rfl ?_ (each_cons _ rfl ?_ (each_cons _ rfl ?_ (each_nil))))
   ·
    refine mo0 1 [] [1, 2, 6, 9] (fun γ5 => [(3, .slice (some ⟨γ5 0, 0, none⟩) 0 0)]) (fun γ5 L => bx (γ5 0) (#[]) 42 :: L) (fun γ5 => ?_)
    refine od_ ?_
    exact wk (hmx5 γ5 trivial) [1, 2, 3, 6, 9] [[_], [_], [_]] [0, 1, 2] rfl rfl
   ·
    refine mo0 1 [] [1, 2, 6, 9] (fun γ105 => [(8, .slice (some ⟨γ105 0, 0, none⟩) 0 0)]) (fun γ105 L => bx (γ105 0) (#[]) 32 :: L) (fun γ105 => ?_)
    refine od_ ?_
    exact wk (hmx8 γ105 trivial) [1, 2, 6, 8, 9] [[_], [_], [_]] [0, 1, 2] rfl rfl
   ·
    refine qo0 1 [(7, .go (owns 1 2 1))] [1, 2, 6] [(10, .slice pa na ca)] ?_
    refine od_ ?_
    exact wk (hmx9 () trivial) [1, 2, 6, 10] [[_], [_]] [0, 1] rfl rfl
  refine any_cutX (V := (Nat → Nat)) (fun γ5 => True) 10 #[true, true, true, false, false, false, true, false, false, false, false, false, false, false] (fun γ5 => [(1, .pointer (some ⟨γ1 0, 0, none⟩)), (2, .pointer (some ⟨γ1 1, 0, none⟩)), (3, .slice (some ⟨γ5 0, 0, none⟩) 0 0), (5, .pointer (some ⟨γ1 0, 1, none⟩)), (9, .pointer (some ⟨γ1 0, 2, none⟩))]) (fun γ5 => [bx (γ5 0) (#[]) 42, bx (γ1 1) (#[.int .i64 0, .slice none 0 0, .slice none 0 0]) 27, bx (γ1 0) (#[.int .i64 now, .slice p n cap, .slice pa na ca]) 27]) ?_ (fun hmx1 => ?_)
  ·
   rintro γ5 _
   refine any_fork [3, 5, 7] (by kernel_rfl) (by simp) (each_cons _ rfl ?_ (each_cons _ rfl ?_ (each_cons _ rfl ?_ (each_nil))))
   ·
    refine qo0 1 [(3, .go (owns 2 1 1))] [1, 2, 3, 9] [(6, .slice p n cap)] ?_
    refine od_ ?_
    exact wk (hmx5 γ5 trivial) [1, 2, 3, 6, 9] [[_], [_], [_]] [0, 1, 2] rfl rfl
   ·
    refine mo0 1 [] [1, 2, 3, 5, 9] (fun γ105 => [(8, .slice (some ⟨γ105 0, 0, none⟩) 0 0)]) (fun γ105 L => bx (γ105 0) (#[]) 32 :: L) (fun γ105 => ?_)
    refine od_ ?_
    exact wk (hmx6 (γ105, γ5) trivial) [1, 2, 3, 5, 8, 9] [[_], [_], [_], [_]] [0, 1, 2, 3] rfl rfl
   ·
    refine qo0 1 [(7, .go (owns 2 2 1))] [1, 2, 3, 5] [(10, .slice pa na ca)] ?_
    refine od_ ?_
    exact wk (hmx7 γ5 trivial) [1, 2, 3, 5, 10] [[_], [_], [_]] [0, 1, 2] rfl rfl
  refine any_fork [0, 3, 5, 7] (by kernel_rfl) (by simp) (each_cons _ rfl ?_ (each_cons _ rfl ?_ (each_cons _ rfl ?_ (each_cons _ rfl ?_ (each_nil)))))
  ·
   refine mo0 1 [] [1, 2, 5, 9] (fun γ5 => [(3, .slice (some ⟨γ5 0, 0, none⟩) 0 0)]) (fun γ5 L => bx (γ5 0) (#[]) 42 :: L) (fun γ5 => ?_)
   refine od_ ?_
   exact wk (hmx1 γ5 trivial) [1, 2, 3, 5, 9] [[_], [_], [_]] [0, 1, 2] rfl rfl
  ·
   refine qo0 1 [(3, .go (owns 1 1 1))] [1, 2, 9] [(6, .slice p n cap)] ?_
   refine od_ ?_
   exact wk (hmx2 () trivial) [1, 2, 6, 9] [[_], [_]] [0, 1] rfl rfl
  ·
   refine mo0 1 [] [1, 2, 5, 9] (fun γ105 => [(8, .slice (some ⟨γ105 0, 0, none⟩) 0 0)]) (fun γ105 L => bx (γ105 0) (#[]) 32 :: L) (fun γ105 => ?_)
   refine od_ ?_
   exact wk (hmx3 γ105 trivial) [1, 2, 5, 8, 9] [[_], [_], [_]] [0, 1, 2] rfl rfl
  ·
   refine qo0 1 [(7, .go (owns 1 2 1))] [1, 2, 5] [(10, .slice pa na ca)] ?_
   refine od_ ?_
   exact wk (hmx4 () trivial) [1, 2, 5, 10] [[_], [_]] [0, 1] rfl rfl
 rintro ⟨Y165, Y85, cap165, cap85, p165, p85, γ105, γ5⟩ ⟨hO165, hO85⟩
 refine any_nil (by kernel_rfl) ?_
 refine ds_ (sq_ (ma0 [(0, .go (owns 1 0 3)), (1, .go (owns 0 0 3))] [2] (fun _ => []) (fun _ L => (L.set 0 (bx (γ1 1) (#[.int .i64 now, .slice p85 (0 + n) cap85, .slice p165 (0 + na) cap165]) 27))) (fun _ => ds_ (rt (owns 0 0 3) (.agg #[.int .i64 now, .slice p85 (0 + n) cap85, .slice p165 (0 + na) cap165]) ?_))))
 exact fun w' hw => ⟨_, _, _, _, _, _, _, _, rfl, by simpa using hO85, by simpa using hO165, hw.below, two_tails (Hs.pick [[bx (γ1 1) (#[.int .i64 now, .slice p85 (0 + n) cap85, .slice p165 (0 + na) cap165]) 27], [bx (γ1 0) (#[.int .i64 now, .slice p85 (0 + n) cap85, .slice p165 (0 + na) cap165]) 27], Y165, Y85] [3, 2] [0, 1] (by kernel_rfl) hw)⟩

set_option maxRecDepth 100000 in
theorem short_t (now : Int) (p : Option Addr) (n cap : Nat) (ts : List Tim) (pa : Option Addr) (na ca : Nat) (rs : List Alm) (w : World)
 (hts : Sv w p ts) (hn : n = ts.length) (hcp : n ≤ cap) (hbg : cap ≤ 9223372036854775807)
 (hrs : Sv w pa rs) (hna : na = rs.length) (hca : na ≤ ca) (hbga : ca ≤ 9223372036854775807)
 : Calls Tryz.prog 5 #[.agg #[.int .i64 now, .slice p n cap, .slice pa na ca]] w fun e w' => ∃ q m c Y q2 m2 c2 X, e = .returned (.agg #[.int .i64 now, .slice q m c, .slice q2 m2 c2]) ∧ SlO 42 Y q m c (shT ts) ∧ SlO 32 X q2 m2 c2 (shR rs) ∧ Below w.heap.size w w' ∧ Hs w (Y ++ X) w' := by
 refine enter (Hs.start w) Tryz.func5 rfl Tryz.ntmps5 rfl (sq_ (ma0 [] [] (fun γ1 => [(1, .pointer (some ⟨γ1 0, 0, none⟩)), (2, .pointer (some ⟨γ1 1, 0, none⟩))]) (fun γ1 L => bx (γ1 1) (#[.int .i64 0, .slice none 0 0, .slice none 0 0]) 27 :: bx (γ1 0) (#[.int .i64 now, .slice p n cap, .slice pa na ca]) 27 :: L) (fun γ1 => ds_ (sq_ ?_))))
 refine at_any (by kernel_rfl) ?_
 refine tk (m := 15) [0, 1, 3, 4, 9, 11] [] [1, 2] [(4, .pointer (some ⟨γ1 0, 1, none⟩)), (7, .pointer (some ⟨γ1 0, 1, none⟩)), (12, .pointer (some ⟨γ1 0, 2, none⟩)), (14, .pointer (some ⟨γ1 0, 2, none⟩))] ([]) #[true, true, false, true, true, false, false, false, false, true, false, true, false, false, false, false, false, false, false, false, false] al0 ?_
 refine any_cutX (V := Unit) (fun _ => True) 0 #[true, true, true, true, true, true, true, true, true, true, true, true, true, true, true, true, true, true, true, true, true] (fun _ => [(1, .pointer (some ⟨γ1 0, 0, none⟩)), (2, .pointer (some ⟨γ1 1, 0, none⟩))]) (fun _ => [bx (γ1 1) (#[.int .i64 0, .slice none 0 0, .slice none 0 0]) 27, bx (γ1 0) (#[.int .i64 now, .slice p ((min n 33)) cap, .slice pa ((min na 17)) ca]) 27]) ?_ (fun hmx27 => ?_)
 rotate_left
 ·
  refine any_cutX (V := Unit) (fun _ => True) 1 #[true, true, true, true, true, true, true, true, true, true, true, true, true, true, true, true, true, true, true, true, false] (fun _ => [(1, .pointer (some ⟨γ1 0, 0, none⟩)), (2, .pointer (some ⟨γ1 1, 0, none⟩)), (18, .slice pa ((min na 17)) ca), (21, .pointer (some ⟨γ1 0, 2, none⟩))]) (fun _ => [bx (γ1 1) (#[.int .i64 0, .slice none 0 0, .slice none 0 0]) 27, bx (γ1 0) (#[.int .i64 now, .slice p ((min n 33)) cap, .slice pa na ca]) 27]) ?_ (fun hmx26 => ?_)
  ·
   rintro _ _
   refine a1 20 rfl ?_
   refine mo0 1 [(20, .go (owns 1 2 1))] [1, 2] (fun _ => []) (fun _ L => (L.set 1 (bx (γ1 0) (#[.int .i64 now, .slice p ((min n 33)) cap, .slice pa ((min na 17)) ca]) 27))) (fun _ => ?_)
   refine od_ ?_
   exact wk (hmx27 () trivial) [1, 2] [[_], [_]] [0, 1] rfl rfl
  refine any_cutX (V := Unit) (fun _ => True) 3 #[true, true, true, true, true, true, true, true, true, true, true, true, true, true, true, false, true, true, true, false, false] (fun _ => [(1, .pointer (some ⟨γ1 0, 0, none⟩)), (2, .pointer (some ⟨γ1 1, 0, none⟩)), (13, .slice pa na ca), (17, .int .i64 ((if (17 : Int) < ((na : Nat) : Int) then 17 else (na : Nat))))]) (fun _ => [bx (γ1 1) (#[.int .i64 0, .slice none 0 0, .slice none 0 0]) 27, bx (γ1 0) (#[.int .i64 now, .slice p ((min n 33)) cap, .slice pa na ca]) 27]) ?_ (fun hmx25 => ?_)
  ·
   rintro _ _
   refine a1 15 rfl ?_
   refine qo 1 [(15, .sl (.slice pa ((min na 17)) ca))] [1, 2] [(18, .slice pa ((min na 17)) ca)] ([SlRun Tryz.prog 25 (.slice pa na ca) none (some (.int .i64 ((if (17 : Int) < ((na : Nat) : Int) then 17 else (na : Nat))))) none (.slice pa ((min na 17)) ca)]) (al1 (by rw [min_if17]; exact slE_hi (P := Tryz.prog) (h := (min na 17)) (T := 25) (e := 32) (k := 3) (by_ := 24) (by kernel_rfl) (by omega))) ?_
   refine od_ ?_
   refine tk (m := 1) [19] [] [1, 2, 18] [(21, .pointer (some ⟨γ1 0, 2, none⟩))] ([]) #[true, true, true, true, true, true, true, true, true, true, true, true, true, true, true, true, true, true, true, true, false] al0 ?_
   exact wk (hmx26 () trivial) [1, 2, 18, 21] [[_], [_]] [0, 1] rfl rfl
  refine any_cutX (V := Unit) (fun _ => True) 3 #[true, true, true, true, true, true, true, true, true, true, true, true, true, true, true, true, true, true, false, false, false] (fun _ => [(1, .pointer (some ⟨γ1 0, 0, none⟩)), (2, .pointer (some ⟨γ1 1, 0, none⟩)), (11, .slice p ((min n 33)) cap), (18, .slice pa ((min na 17)) ca), (20, .pointer (some ⟨γ1 0, 1, none⟩))]) (fun _ => [bx (γ1 1) (#[.int .i64 0, .slice none 0 0, .slice none 0 0]) 27, bx (γ1 0) (#[.int .i64 now, .slice p n cap, .slice pa na ca]) 27]) ?_ (fun hmx24 => ?_)
  ·
   rintro _ _
   refine a1 18 rfl ?_
   refine mo0 1 [(18, .go (owns 1 1 1))] [1, 2, 18] (fun _ => []) (fun _ L => (L.set 1 (bx (γ1 0) (#[.int .i64 now, .slice p ((min n 33)) cap, .slice pa na ca]) 27))) (fun _ => ?_)
   refine od_ ?_
   refine tk (m := 1) [19] [] [1, 2, 18] [(21, .pointer (some ⟨γ1 0, 2, none⟩))] ([]) #[true, true, true, true, true, true, true, true, true, true, true, true, true, true, true, true, true, true, true, true, false] al0 ?_
   exact wk (hmx26 () trivial) [1, 2, 18, 21] [[_], [_]] [0, 1] rfl rfl
  refine any_cutX (V := Unit) (fun _ => True) 4 #[true, true, true, true, true, true, true, true, true, true, true, true, true, true, true, false, true, true, false, false, false] (fun _ => [(1, .pointer (some ⟨γ1 0, 0, none⟩)), (2, .pointer (some ⟨γ1 1, 0, none⟩)), (11, .slice p ((min n 33)) cap), (13, .slice pa na ca), (17, .int .i64 ((if (17 : Int) < ((na : Nat) : Int) then 17 else (na : Nat)))), (20, .pointer (some ⟨γ1 0, 1, none⟩))]) (fun _ => [bx (γ1 1) (#[.int .i64 0, .slice none 0 0, .slice none 0 0]) 27, bx (γ1 0) (#[.int .i64 now, .slice p n cap, .slice pa na ca]) 27]) ?_ (fun hmx23 => ?_)
  ·
   rintro _ _
   refine any_fork [15, 18] (by kernel_rfl) (by simp) (each_cons _ rfl ?_ (each_cons _ rfl ?_ (each_nil)))
   ·
    refine qo 1 [(15, .sl (.slice pa ((min na 17)) ca))] [1, 2, 11, 20] [(18, .slice pa ((min na 17)) ca)] ([SlRun Tryz.prog 25 (.slice pa na ca) none (some (.int .i64 ((if (17 : Int) < ((na : Nat) : Int) then 17 else (na : Nat))))) none (.slice pa ((min na 17)) ca)]) (al1 (by rw [min_if17]; exact slE_hi (P := Tryz.prog) (h := (min na 17)) (T := 25) (e := 32) (k := 3) (by_ := 24) (by kernel_rfl) (by omega))) ?_
    refine od_ ?_
    exact wk (hmx24 () trivial) [1, 2, 11, 18, 20] [[_], [_]] [0, 1] rfl rfl
   ·
    refine mo0 1 [(18, .go (owns 1 1 1))] [1, 2, 13, 17] (fun _ => []) (fun _ L => (L.set 1 (bx (γ1 0) (#[.int .i64 now, .slice p ((min n 33)) cap, .slice pa na ca]) 27))) (fun _ => ?_)
    refine od_ ?_
    exact wk (hmx25 () trivial) [1, 2, 13, 17] [[_], [_]] [0, 1] rfl rfl
  refine any_cutX (V := Unit) (fun _ => True) 6 #[true, true, true, true, true, true, true, true, false, true, true, true, true, true, true, true, false, false, false, false, false] (fun _ => [(1, .pointer (some ⟨γ1 0, 0, none⟩)), (2, .pointer (some ⟨γ1 1, 0, none⟩)), (5, .slice p n cap), (10, .int .i64 ((if (33 : Int) < ((n : Nat) : Int) then 33 else (n : Nat)))), (18, .slice pa ((min na 17)) ca)]) (fun _ => [bx (γ1 1) (#[.int .i64 0, .slice none 0 0, .slice none 0 0]) 27, bx (γ1 0) (#[.int .i64 now, .slice p n cap, .slice pa na ca]) 27]) ?_ (fun hmx22 => ?_)
  ·
   rintro _ _
   refine a1 8 rfl ?_
   refine qo 1 [(8, .sl (.slice p ((min n 33)) cap))] [1, 2, 18] [(11, .slice p ((min n 33)) cap)] ([SlRun Tryz.prog 22 (.slice p n cap) none (some (.int .i64 ((if (33 : Int) < ((n : Nat) : Int) then 33 else (n : Nat))))) none (.slice p ((min n 33)) cap)]) (al1 (by rw [min_if33]; exact slE_hi (P := Tryz.prog) (h := (min n 33)) (T := 22) (e := 42) (k := 2) (by_ := 16) (by kernel_rfl) (by omega))) ?_
   refine od_ ?_
   refine tk (m := 3) [16, 17] [] [1, 2, 11, 18] [(20, .pointer (some ⟨γ1 0, 1, none⟩))] ([]) #[true, true, true, true, true, true, true, true, true, true, true, true, true, true, true, true, true, true, false, false, false] al0 ?_
   exact wk (hmx24 () trivial) [1, 2, 11, 18, 20] [[_], [_]] [0, 1] rfl rfl
  refine any_cutX (V := Unit) (fun _ => True) 7 #[true, true, false, true, true, true, true, true, false, true, true, true, true, true, true, true, false, false, false, false, false] (fun _ => [(1, .pointer (some ⟨γ1 0, 0, none⟩)), (2, .pointer (some ⟨γ1 1, 0, none⟩)), (4, .pointer (some ⟨γ1 0, 1, none⟩)), (10, .int .i64 ((if (33 : Int) < ((n : Nat) : Int) then 33 else (n : Nat)))), (18, .slice pa ((min na 17)) ca)]) (fun _ => [bx (γ1 1) (#[.int .i64 0, .slice none 0 0, .slice none 0 0]) 27, bx (γ1 0) (#[.int .i64 now, .slice p n cap, .slice pa na ca]) 27]) ?_ (fun hmx21 => ?_)
  ·
   rintro _ _
   refine a1 2 rfl ?_
   refine qo0 1 [(2, .go (owns 1 1 1))] [1, 2, 10, 18] [(5, .slice p n cap)] ?_
   refine od_ ?_
   exact wk (hmx22 () trivial) [1, 2, 5, 10, 18] [[_], [_]] [0, 1] rfl rfl
  refine any_cutX (V := Unit) (fun _ => True) 7 #[true, true, true, true, true, true, true, true, true, true, false, true, true, true, true, false, false, false, false, false, false] (fun _ => [(1, .pointer (some ⟨γ1 0, 0, none⟩)), (2, .pointer (some ⟨γ1 1, 0, none⟩)), (11, .slice p ((min n 33)) cap), (12, .pointer (some ⟨γ1 0, 2, none⟩)), (17, .int .i64 ((if (17 : Int) < ((na : Nat) : Int) then 17 else (na : Nat))))]) (fun _ => [bx (γ1 1) (#[.int .i64 0, .slice none 0 0, .slice none 0 0]) 27, bx (γ1 0) (#[.int .i64 now, .slice p n cap, .slice pa na ca]) 27]) ?_ (fun hmx20 => ?_)
  ·
   rintro _ _
   refine a1 10 rfl ?_
   refine qo0 1 [(10, .go (owns 1 2 1))] [1, 2, 11, 17] [(13, .slice pa na ca)] ?_
   refine od_ ?_
   refine tk (m := 4) [16, 17] [] [1, 2, 11, 13, 17] [(20, .pointer (some ⟨γ1 0, 1, none⟩))] ([]) #[true, true, true, true, true, true, true, true, true, true, true, true, true, true, true, false, true, true, false, false, false] al0 ?_
   exact wk (hmx23 () trivial) [1, 2, 11, 13, 17, 20] [[_], [_]] [0, 1] rfl rfl
  refine any_cutX (V := Unit) (fun _ => True) 7 #[true, true, true, true, true, true, true, true, false, true, true, true, true, true, true, false, false, false, false, false, false] (fun _ => [(1, .pointer (some ⟨γ1 0, 0, none⟩)), (2, .pointer (some ⟨γ1 1, 0, none⟩)), (5, .slice p n cap), (10, .int .i64 ((if (33 : Int) < ((n : Nat) : Int) then 33 else (n : Nat)))), (13, .slice pa na ca), (17, .int .i64 ((if (17 : Int) < ((na : Nat) : Int) then 17 else (na : Nat))))]) (fun _ => [bx (γ1 1) (#[.int .i64 0, .slice none 0 0, .slice none 0 0]) 27, bx (γ1 0) (#[.int .i64 now, .slice p n cap, .slice pa na ca]) 27]) ?_ (fun hmx19 => ?_)
  ·
   rintro _ _
   refine any_fork [8, 15] (by kernel_rfl) (by simp) (each_cons _ rfl ?_ (each_cons _ rfl ?_ (each_nil)))
   ·
    refine qo 1 [(8, .sl (.slice p ((min n 33)) cap))] [1, 2, 13, 17] [(11, .slice p ((min n 33)) cap)] ([SlRun Tryz.prog 22 (.slice p n cap) none (some (.int .i64 ((if (33 : Int) < ((n : Nat) : Int) then 33 else (n : Nat))))) none (.slice p ((min n 33)) cap)]) (al1 (by rw [min_if33]; exact slE_hi (P := Tryz.prog) (h := (min n 33)) (T := 22) (e := 42) (k := 2) (by_ := 16) (by kernel_rfl) (by omega))) ?_
    refine od_ ?_
    refine tk (m := 4) [16, 17] [] [1, 2, 11, 13, 17] [(20, .pointer (some ⟨γ1 0, 1, none⟩))] ([]) #[true, true, true, true, true, true, true, true, true, true, true, true, true, true, true, false, true, true, false, false, false] al0 ?_
    exact wk (hmx23 () trivial) [1, 2, 11, 13, 17, 20] [[_], [_]] [0, 1] rfl rfl
   ·
    refine qo 1 [(15, .sl (.slice pa ((min na 17)) ca))] [1, 2, 5, 10] [(18, .slice pa ((min na 17)) ca)] ([SlRun Tryz.prog 25 (.slice pa na ca) none (some (.int .i64 ((if (17 : Int) < ((na : Nat) : Int) then 17 else (na : Nat))))) none (.slice pa ((min na 17)) ca)]) (al1 (by rw [min_if17]; exact slE_hi (P := Tryz.prog) (h := (min na 17)) (T := 25) (e := 32) (k := 3) (by_ := 24) (by kernel_rfl) (by omega))) ?_
    refine od_ ?_
    exact wk (hmx22 () trivial) [1, 2, 5, 10, 18] [[_], [_]] [0, 1] rfl rfl
  refine any_cutX (V := Unit) (fun _ => True) 8 #[true, true, false, true, true, true, true, true, false, true, true, true, true, true, true, false, false, false, false, false, false] (fun _ => [(1, .pointer (some ⟨γ1 0, 0, none⟩)), (2, .pointer (some ⟨γ1 1, 0, none⟩)), (4, .pointer (some ⟨γ1 0, 1, none⟩)), (10, .int .i64 ((if (33 : Int) < ((n : Nat) : Int) then 33 else (n : Nat)))), (13, .slice pa na ca), (17, .int .i64 ((if (17 : Int) < ((na : Nat) : Int) then 17 else (na : Nat))))]) (fun _ => [bx (γ1 1) (#[.int .i64 0, .slice none 0 0, .slice none 0 0]) 27, bx (γ1 0) (#[.int .i64 now, .slice p n cap, .slice pa na ca]) 27]) ?_ (fun hmx18 => ?_)
  ·
   rintro _ _
   refine any_fork [2, 15] (by kernel_rfl) (by simp) (each_cons _ rfl ?_ (each_cons _ rfl ?_ (each_nil)))
   ·
    refine qo0 1 [(2, .go (owns 1 1 1))] [1, 2, 10, 13, 17] [(5, .slice p n cap)] ?_
    refine od_ ?_
    exact wk (hmx19 () trivial) [1, 2, 5, 10, 13, 17] [[_], [_]] [0, 1] rfl rfl
   ·
    refine qo 1 [(15, .sl (.slice pa ((min na 17)) ca))] [1, 2, 4, 10] [(18, .slice pa ((min na 17)) ca)] ([SlRun Tryz.prog 25 (.slice pa na ca) none (some (.int .i64 ((if (17 : Int) < ((na : Nat) : Int) then 17 else (na : Nat))))) none (.slice pa ((min na 17)) ca)]) (al1 (by rw [min_if17]; exact slE_hi (P := Tryz.prog) (h := (min na 17)) (T := 25) (e := 32) (k := 3) (by_ := 24) (by kernel_rfl) (by omega))) ?_
    refine od_ ?_
    exact wk (hmx21 () trivial) [1, 2, 4, 10, 18] [[_], [_]] [0, 1] rfl rfl
  refine any_cutX (V := Unit) (fun _ => True) 8 #[true, true, true, true, true, true, true, true, false, true, false, true, true, true, true, false, false, false, false, false, false] (fun _ => [(1, .pointer (some ⟨γ1 0, 0, none⟩)), (2, .pointer (some ⟨γ1 1, 0, none⟩)), (5, .slice p n cap), (10, .int .i64 ((if (33 : Int) < ((n : Nat) : Int) then 33 else (n : Nat)))), (12, .pointer (some ⟨γ1 0, 2, none⟩)), (17, .int .i64 ((if (17 : Int) < ((na : Nat) : Int) then 17 else (na : Nat))))]) (fun _ => [bx (γ1 1) (#[.int .i64 0, .slice none 0 0, .slice none 0 0]) 27, bx (γ1 0) (#[.int .i64 now, .slice p n cap, .slice pa na ca]) 27]) ?_ (fun hmx17 => ?_)
  ·
   rintro _ _
   refine any_fork [8, 10] (by kernel_rfl) (by simp) (each_cons _ rfl ?_ (each_cons _ rfl ?_ (each_nil)))
   ·
    refine qo 1 [(8, .sl (.slice p ((min n 33)) cap))] [1, 2, 12, 17] [(11, .slice p ((min n 33)) cap)] ([SlRun Tryz.prog 22 (.slice p n cap) none (some (.int .i64 ((if (33 : Int) < ((n : Nat) : Int) then 33 else (n : Nat))))) none (.slice p ((min n 33)) cap)]) (al1 (by rw [min_if33]; exact slE_hi (P := Tryz.prog) (h := (min n 33)) (T := 22) (e := 42) (k := 2) (by_ := 16) (by kernel_rfl) (by omega))) ?_
    refine od_ ?_
    exact wk (hmx20 () trivial) [1, 2, 11, 12, 17] [[_], [_]] [0, 1] rfl rfl
   ·
    refine qo0 1 [(10, .go (owns 1 2 1))] [1, 2, 5, 10, 17] [(13, .slice pa na ca)] ?_
    refine od_ ?_
    exact wk (hmx19 () trivial) [1, 2, 5, 10, 13, 17] [[_], [_]] [0, 1] rfl rfl
  refine any_cutX (V := Unit) (fun _ => True) 9 #[true, true, true, true, true, false, false, false, false, true, true, true, true, true, true, true, false, false, false, false, false] (fun _ => [(1, .pointer (some ⟨γ1 0, 0, none⟩)), (2, .pointer (some ⟨γ1 1, 0, none⟩)), (5, .slice p n cap), (7, .pointer (some ⟨γ1 0, 1, none⟩)), (18, .slice pa ((min na 17)) ca)]) (fun _ => [bx (γ1 1) (#[.int .i64 0, .slice none 0 0, .slice none 0 0]) 27, bx (γ1 0) (#[.int .i64 now, .slice p n cap, .slice pa na ca]) 27]) ?_ (fun hmx16 => ?_)
  ·
   rintro _ _
   refine a1 5 rfl ?_
   refine qo0 1 [(5, .go (owns 1 1 1))] [1, 2, 5, 18] [(8, .slice p n cap)] ?_
   refine od_ ?_
   refine tk (m := 6) [6, 7] [] [1, 2, 5, 18] [(10, .int .i64 ((if (33 : Int) < ((n : Nat) : Int) then 33 else (n : Nat))))] ([]) #[true, true, true, true, true, true, true, true, false, true, true, true, true, true, true, true, false, false, false, false, false] al0 ?_
   exact wk (hmx22 () trivial) [1, 2, 5, 10, 18] [[_], [_]] [0, 1] rfl rfl
  refine any_cutX (V := Unit) (fun _ => True) 9 #[true, true, true, true, true, true, true, true, true, true, true, true, false, false, false, false, false, false, false, false, false] (fun _ => [(1, .pointer (some ⟨γ1 0, 0, none⟩)), (2, .pointer (some ⟨γ1 1, 0, none⟩)), (11, .slice p ((min n 33)) cap), (13, .slice pa na ca), (14, .pointer (some ⟨γ1 0, 2, none⟩))]) (fun _ => [bx (γ1 1) (#[.int .i64 0, .slice none 0 0, .slice none 0 0]) 27, bx (γ1 0) (#[.int .i64 now, .slice p n cap, .slice pa na ca]) 27]) ?_ (fun hmx15 => ?_)
  ·
   rintro _ _
   refine a1 12 rfl ?_
   refine qo0 1 [(12, .go (owns 1 2 1))] [1, 2, 11, 13] [(15, .slice pa na ca)] ?_
   refine od_ ?_
   refine tk (m := 4) [13, 14, 16, 17] [] [1, 2, 11, 13] [(17, .int .i64 ((if (17 : Int) < ((na : Nat) : Int) then 17 else (na : Nat)))), (20, .pointer (some ⟨γ1 0, 1, none⟩))] ([]) #[true, true, true, true, true, true, true, true, true, true, true, true, true, true, true, false, true, true, false, false, false] al0 ?_
   exact wk (hmx23 () trivial) [1, 2, 11, 13, 17, 20] [[_], [_]] [0, 1] rfl rfl
  refine any_cutX (V := Unit) (fun _ => True) 9 #[true, true, false, true, true, true, true, true, false, true, false, true, true, true, true, false, false, false, false, false, false] (fun _ => [(1, .pointer (some ⟨γ1 0, 0, none⟩)), (2, .pointer (some ⟨γ1 1, 0, none⟩)), (4, .pointer (some ⟨γ1 0, 1, none⟩)), (10, .int .i64 ((if (33 : Int) < ((n : Nat) : Int) then 33 else (n : Nat)))), (12, .pointer (some ⟨γ1 0, 2, none⟩)), (17, .int .i64 ((if (17 : Int) < ((na : Nat) : Int) then 17 else (na : Nat))))]) (fun _ => [bx (γ1 1) (#[.int .i64 0, .slice none 0 0, .slice none 0 0]) 27, bx (γ1 0) (#[.int .i64 now, .slice p n cap, .slice pa na ca]) 27]) ?_ (fun hmx14 => ?_)
  ·
   rintro _ _
   refine any_fork [2, 10] (by kernel_rfl) (by simp) (each_cons _ rfl ?_ (each_cons _ rfl ?_ (each_nil)))
   ·
    refine qo0 1 [(2, .go (owns 1 1 1))] [1, 2, 10, 12, 17] [(5, .slice p n cap)] ?_
    refine od_ ?_
    exact wk (hmx17 () trivial) [1, 2, 5, 10, 12, 17] [[_], [_]] [0, 1] rfl rfl
   ·
    refine qo0 1 [(10, .go (owns 1 2 1))] [1, 2, 4, 10, 17] [(13, .slice pa na ca)] ?_
    refine od_ ?_
    exact wk (hmx18 () trivial) [1, 2, 4, 10, 13, 17] [[_], [_]] [0, 1] rfl rfl
  refine any_cutX (V := Unit) (fun _ => True) 10 #[true, true, false, true, true, false, false, false, false, true, true, true, true, true, true, true, false, false, false, false, false] (fun _ => [(1, .pointer (some ⟨γ1 0, 0, none⟩)), (2, .pointer (some ⟨γ1 1, 0, none⟩)), (4, .pointer (some ⟨γ1 0, 1, none⟩)), (7, .pointer (some ⟨γ1 0, 1, none⟩)), (18, .slice pa ((min na 17)) ca)]) (fun _ => [bx (γ1 1) (#[.int .i64 0, .slice none 0 0, .slice none 0 0]) 27, bx (γ1 0) (#[.int .i64 now, .slice p n cap, .slice pa na ca]) 27]) ?_ (fun hmx13 => ?_)
  ·
   rintro _ _
   refine any_fork [2, 5] (by kernel_rfl) (by simp) (each_cons _ rfl ?_ (each_cons _ rfl ?_ (each_nil)))
   ·
    refine qo0 1 [(2, .go (owns 1 1 1))] [1, 2, 7, 18] [(5, .slice p n cap)] ?_
    refine od_ ?_
    exact wk (hmx16 () trivial) [1, 2, 5, 7, 18] [[_], [_]] [0, 1] rfl rfl
   ·
    refine qo0 1 [(5, .go (owns 1 1 1))] [1, 2, 4, 18] [(8, .slice p n cap)] ?_
    refine od_ ?_
    refine tk (m := 7) [6, 7] [] [1, 2, 4, 18] [(10, .int .i64 ((if (33 : Int) < ((n : Nat) : Int) then 33 else (n : Nat))))] ([]) #[true, true, false, true, true, true, true, true, false, true, true, true, true, true, true, true, false, false, false, false, false] al0 ?_
    exact wk (hmx21 () trivial) [1, 2, 4, 10, 18] [[_], [_]] [0, 1] rfl rfl
  refine any_cutX (V := Unit) (fun _ => True) 10 #[true, true, true, true, true, true, true, true, true, true, false, true, false, false, false, false, false, false, false, false, false] (fun _ => [(1, .pointer (some ⟨γ1 0, 0, none⟩)), (2, .pointer (some ⟨γ1 1, 0, none⟩)), (11, .slice p ((min n 33)) cap), (12, .pointer (some ⟨γ1 0, 2, none⟩)), (14, .pointer (some ⟨γ1 0, 2, none⟩))]) (fun _ => [bx (γ1 1) (#[.int .i64 0, .slice none 0 0, .slice none 0 0]) 27, bx (γ1 0) (#[.int .i64 now, .slice p n cap, .slice pa na ca]) 27]) ?_ (fun hmx12 => ?_)
  ·
   rintro _ _
   refine any_fork [10, 12] (by kernel_rfl) (by simp) (each_cons _ rfl ?_ (each_cons _ rfl ?_ (each_nil)))
   ·
    refine qo0 1 [(10, .go (owns 1 2 1))] [1, 2, 11, 14] [(13, .slice pa na ca)] ?_
    refine od_ ?_
    exact wk (hmx15 () trivial) [1, 2, 11, 13, 14] [[_], [_]] [0, 1] rfl rfl
   ·
    refine qo0 1 [(12, .go (owns 1 2 1))] [1, 2, 11, 12] [(15, .slice pa na ca)] ?_
    refine od_ ?_
    refine tk (m := 7) [13, 14] [] [1, 2, 11, 12] [(17, .int .i64 ((if (17 : Int) < ((na : Nat) : Int) then 17 else (na : Nat))))] ([]) #[true, true, true, true, true, true, true, true, true, true, false, true, true, true, true, false, false, false, false, false, false] al0 ?_
    exact wk (hmx20 () trivial) [1, 2, 11, 12, 17] [[_], [_]] [0, 1] rfl rfl
  refine any_cutX (V := Unit) (fun _ => True) 10 #[true, true, true, true, true, false, false, false, false, true, true, true, true, true, true, false, false, false, false, false, false] (fun _ => [(1, .pointer (some ⟨γ1 0, 0, none⟩)), (2, .pointer (some ⟨γ1 1, 0, none⟩)), (5, .slice p n cap), (7, .pointer (some ⟨γ1 0, 1, none⟩)), (13, .slice pa na ca), (17, .int .i64 ((if (17 : Int) < ((na : Nat) : Int) then 17 else (na : Nat))))]) (fun _ => [bx (γ1 1) (#[.int .i64 0, .slice none 0 0, .slice none 0 0]) 27, bx (γ1 0) (#[.int .i64 now, .slice p n cap, .slice pa na ca]) 27]) ?_ (fun hmx11 => ?_)
  ·
   rintro _ _
   refine any_fork [5, 15] (by kernel_rfl) (by simp) (each_cons _ rfl ?_ (each_cons _ rfl ?_ (each_nil)))
   ·
    refine qo0 1 [(5, .go (owns 1 1 1))] [1, 2, 5, 13, 17] [(8, .slice p n cap)] ?_
    refine od_ ?_
    refine tk (m := 7) [6, 7] [] [1, 2, 5, 13, 17] [(10, .int .i64 ((if (33 : Int) < ((n : Nat) : Int) then 33 else (n : Nat))))] ([]) #[true, true, true, true, true, true, true, true, false, true, true, true, true, true, true, false, false, false, false, false, false] al0 ?_
    exact wk (hmx19 () trivial) [1, 2, 5, 10, 13, 17] [[_], [_]] [0, 1] rfl rfl
   ·
    refine qo 1 [(15, .sl (.slice pa ((min na 17)) ca))] [1, 2, 5, 7] [(18, .slice pa ((min na 17)) ca)] ([SlRun Tryz.prog 25 (.slice pa na ca) none (some (.int .i64 ((if (17 : Int) < ((na : Nat) : Int) then 17 else (na : Nat))))) none (.slice pa ((min na 17)) ca)]) (al1 (by rw [min_if17]; exact slE_hi (P := Tryz.prog) (h := (min na 17)) (T := 25) (e := 32) (k := 3) (by_ := 24) (by kernel_rfl) (by omega))) ?_
    refine od_ ?_
    exact wk (hmx16 () trivial) [1, 2, 5, 7, 18] [[_], [_]] [0, 1] rfl rfl
  refine any_cutX (V := Unit) (fun _ => True) 10 #[true, true, true, true, true, true, true, true, false, true, true, true, false, false, false, false, false, false, false, false, false] (fun _ => [(1, .pointer (some ⟨γ1 0, 0, none⟩)), (2, .pointer (some ⟨γ1 1, 0, none⟩)), (5, .slice p n cap), (10, .int .i64 ((if (33 : Int) < ((n : Nat) : Int) then 33 else (n : Nat)))), (13, .slice pa na ca), (14, .pointer (some ⟨γ1 0, 2, none⟩))]) (fun _ => [bx (γ1 1) (#[.int .i64 0, .slice none 0 0, .slice none 0 0]) 27, bx (γ1 0) (#[.int .i64 now, .slice p n cap, .slice pa na ca]) 27]) ?_ (fun hmx10 => ?_)
  ·
   rintro _ _
   refine any_fork [8, 12] (by kernel_rfl) (by simp) (each_cons _ rfl ?_ (each_cons _ rfl ?_ (each_nil)))
   ·
    refine qo 1 [(8, .sl (.slice p ((min n 33)) cap))] [1, 2, 13, 14] [(11, .slice p ((min n 33)) cap)] ([SlRun Tryz.prog 22 (.slice p n cap) none (some (.int .i64 ((if (33 : Int) < ((n : Nat) : Int) then 33 else (n : Nat))))) none (.slice p ((min n 33)) cap)]) (al1 (by rw [min_if33]; exact slE_hi (P := Tryz.prog) (h := (min n 33)) (T := 22) (e := 42) (k := 2) (by_ := 16) (by kernel_rfl) (by omega))) ?_
    refine od_ ?_
    exact wk (hmx15 () trivial) [1, 2, 11, 13, 14] [[_], [_]] [0, 1] rfl rfl
   ·
    refine qo0 1 [(12, .go (owns 1 2 1))] [1, 2, 5, 10, 13] [(15, .slice pa na ca)] ?_
    refine od_ ?_
    refine tk (m := 7) [13, 14] [] [1, 2, 5, 10, 13] [(17, .int .i64 ((if (17 : Int) < ((na : Nat) : Int) then 17 else (na : Nat))))] ([]) #[true, true, true, true, true, true, true, true, false, true, true, true, true, true, true, false, false, false, false, false, false] al0 ?_
    exact wk (hmx19 () trivial) [1, 2, 5, 10, 13, 17] [[_], [_]] [0, 1] rfl rfl
  refine any_cutX (V := Unit) (fun _ => True) 11 #[true, true, false, true, true, false, false, false, false, true, true, true, true, true, true, false, false, false, false, false, false] (fun _ => [(1, .pointer (some ⟨γ1 0, 0, none⟩)), (2, .pointer (some ⟨γ1 1, 0, none⟩)), (4, .pointer (some ⟨γ1 0, 1, none⟩)), (7, .pointer (some ⟨γ1 0, 1, none⟩)), (13, .slice pa na ca), (17, .int .i64 ((if (17 : Int) < ((na : Nat) : Int) then 17 else (na : Nat))))]) (fun _ => [bx (γ1 1) (#[.int .i64 0, .slice none 0 0, .slice none 0 0]) 27, bx (γ1 0) (#[.int .i64 now, .slice p n cap, .slice pa na ca]) 27]) ?_ (fun hmx9 => ?_)
  ·
   rintro _ _
   refine any_fork [2, 5, 15] (by kernel_rfl) (by simp) (each_cons _ rfl ?_ (each_cons _ rfl ?_ (each_cons _ rfl ?_ (each_nil))))
   ·
    refine qo0 1 [(2, .go (owns 1 1 1))] [1, 2, 7, 13, 17] [(5, .slice p n cap)] ?_
    refine od_ ?_
    exact wk (hmx11 () trivial) [1, 2, 5, 7, 13, 17] [[_], [_]] [0, 1] rfl rfl
   ·
    refine qo0 1 [(5, .go (owns 1 1 1))] [1, 2, 4, 13, 17] [(8, .slice p n cap)] ?_
    refine od_ ?_
    refine tk (m := 8) [6, 7] [] [1, 2, 4, 13, 17] [(10, .int .i64 ((if (33 : Int) < ((n : Nat) : Int) then 33 else (n : Nat))))] ([]) #[true, true, false, true, true, true, true, true, false, true, true, true, true, true, true, false, false, false, false, false, false] al0 ?_
    exact wk (hmx18 () trivial) [1, 2, 4, 10, 13, 17] [[_], [_]] [0, 1] rfl rfl
   ·
    refine qo 1 [(15, .sl (.slice pa ((min na 17)) ca))] [1, 2, 4, 7] [(18, .slice pa ((min na 17)) ca)] ([SlRun Tryz.prog 25 (.slice pa na ca) none (some (.int .i64 ((if (17 : Int) < ((na : Nat) : Int) then 17 else (na : Nat))))) none (.slice pa ((min na 17)) ca)]) (al1 (by rw [min_if17]; exact slE_hi (P := Tryz.prog) (h := (min na 17)) (T := 25) (e := 32) (k := 3) (by_ := 24) (by kernel_rfl) (by omega))) ?_
    refine od_ ?_
    exact wk (hmx13 () trivial) [1, 2, 4, 7, 18] [[_], [_]] [0, 1] rfl rfl
  refine any_cutX (V := Unit) (fun _ => True) 11 #[true, true, false, true, true, true, true, true, false, true, true, true, false, false, false, false, false, false, false, false, false] (fun _ => [(1, .pointer (some ⟨γ1 0, 0, none⟩)), (2, .pointer (some ⟨γ1 1, 0, none⟩)), (4, .pointer (some ⟨γ1 0, 1, none⟩)), (10, .int .i64 ((if (33 : Int) < ((n : Nat) : Int) then 33 else (n : Nat)))), (13, .slice pa na ca), (14, .pointer (some ⟨γ1 0, 2, none⟩))]) (fun _ => [bx (γ1 1) (#[.int .i64 0, .slice none 0 0, .slice none 0 0]) 27, bx (γ1 0) (#[.int .i64 now, .slice p n cap, .slice pa na ca]) 27]) ?_ (fun hmx8 => ?_)
  ·
   rintro _ _
   refine any_fork [2, 12] (by kernel_rfl) (by simp) (each_cons _ rfl ?_ (each_cons _ rfl ?_ (each_nil)))
   ·
    refine qo0 1 [(2, .go (owns 1 1 1))] [1, 2, 10, 13, 14] [(5, .slice p n cap)] ?_
    refine od_ ?_
    exact wk (hmx10 () trivial) [1, 2, 5, 10, 13, 14] [[_], [_]] [0, 1] rfl rfl
   ·
    refine qo0 1 [(12, .go (owns 1 2 1))] [1, 2, 4, 10, 13] [(15, .slice pa na ca)] ?_
    refine od_ ?_
    refine tk (m := 8) [13, 14] [] [1, 2, 4, 10, 13] [(17, .int .i64 ((if (17 : Int) < ((na : Nat) : Int) then 17 else (na : Nat))))] ([]) #[true, true, false, true, true, true, true, true, false, true, true, true, true, true, true, false, false, false, false, false, false] al0 ?_
    exact wk (hmx18 () trivial) [1, 2, 4, 10, 13, 17] [[_], [_]] [0, 1] rfl rfl
  refine any_cutX (V := Unit) (fun _ => True) 11 #[true, true, true, true, true, false, false, false, false, true, false, true, true, true, true, false, false, false, false, false, false] (fun _ => [(1, .pointer (some ⟨γ1 0, 0, none⟩)), (2, .pointer (some ⟨γ1 1, 0, none⟩)), (5, .slice p n cap), (7, .pointer (some ⟨γ1 0, 1, none⟩)), (12, .pointer (some ⟨γ1 0, 2, none⟩)), (17, .int .i64 ((if (17 : Int) < ((na : Nat) : Int) then 17 else (na : Nat))))]) (fun _ => [bx (γ1 1) (#[.int .i64 0, .slice none 0 0, .slice none 0 0]) 27, bx (γ1 0) (#[.int .i64 now, .slice p n cap, .slice pa na ca]) 27]) ?_ (fun hmx7 => ?_)
  ·
   rintro _ _
   refine any_fork [5, 10] (by kernel_rfl) (by simp) (each_cons _ rfl ?_ (each_cons _ rfl ?_ (each_nil)))
   ·
    refine qo0 1 [(5, .go (owns 1 1 1))] [1, 2, 5, 12, 17] [(8, .slice p n cap)] ?_
    refine od_ ?_
    refine tk (m := 8) [6, 7] [] [1, 2, 5, 12, 17] [(10, .int .i64 ((if (33 : Int) < ((n : Nat) : Int) then 33 else (n : Nat))))] ([]) #[true, true, true, true, true, true, true, true, false, true, false, true, true, true, true, false, false, false, false, false, false] al0 ?_
    exact wk (hmx17 () trivial) [1, 2, 5, 10, 12, 17] [[_], [_]] [0, 1] rfl rfl
   ·
    refine qo0 1 [(10, .go (owns 1 2 1))] [1, 2, 5, 7, 17] [(13, .slice pa na ca)] ?_
    refine od_ ?_
    exact wk (hmx11 () trivial) [1, 2, 5, 7, 13, 17] [[_], [_]] [0, 1] rfl rfl
  refine any_cutX (V := Unit) (fun _ => True) 11 #[true, true, true, true, true, true, true, true, false, true, false, true, false, false, false, false, false, false, false, false, false] (fun _ => [(1, .pointer (some ⟨γ1 0, 0, none⟩)), (2, .pointer (some ⟨γ1 1, 0, none⟩)), (5, .slice p n cap), (10, .int .i64 ((if (33 : Int) < ((n : Nat) : Int) then 33 else (n : Nat)))), (12, .pointer (some ⟨γ1 0, 2, none⟩)), (14, .pointer (some ⟨γ1 0, 2, none⟩))]) (fun _ => [bx (γ1 1) (#[.int .i64 0, .slice none 0 0, .slice none 0 0]) 27, bx (γ1 0) (#[.int .i64 now, .slice p n cap, .slice pa na ca]) 27]) ?_ (fun hmx6 => ?_)
  ·
   rintro _ _
   refine any_fork [8, 10, 12] (by kernel_rfl) (by simp) (each_cons _ rfl ?_ (each_cons _ rfl ?_ (each_cons _ rfl ?_ (each_nil))))
   ·
    refine qo 1 [(8, .sl (.slice p ((min n 33)) cap))] [1, 2, 12, 14] [(11, .slice p ((min n 33)) cap)] ([SlRun Tryz.prog 22 (.slice p n cap) none (some (.int .i64 ((if (33 : Int) < ((n : Nat) : Int) then 33 else (n : Nat))))) none (.slice p ((min n 33)) cap)]) (al1 (by rw [min_if33]; exact slE_hi (P := Tryz.prog) (h := (min n 33)) (T := 22) (e := 42) (k := 2) (by_ := 16) (by kernel_rfl) (by omega))) ?_
    refine od_ ?_
    exact wk (hmx12 () trivial) [1, 2, 11, 12, 14] [[_], [_]] [0, 1] rfl rfl
   ·
    refine qo0 1 [(10, .go (owns 1 2 1))] [1, 2, 5, 10, 14] [(13, .slice pa na ca)] ?_
    refine od_ ?_
    exact wk (hmx10 () trivial) [1, 2, 5, 10, 13, 14] [[_], [_]] [0, 1] rfl rfl
   ·
    refine qo0 1 [(12, .go (owns 1 2 1))] [1, 2, 5, 10, 12] [(15, .slice pa na ca)] ?_
    refine od_ ?_
    refine tk (m := 8) [13, 14] [] [1, 2, 5, 10, 12] [(17, .int .i64 ((if (17 : Int) < ((na : Nat) : Int) then 17 else (na : Nat))))] ([]) #[true, true, true, true, true, true, true, true, false, true, false, true, true, true, true, false, false, false, false, false, false] al0 ?_
    exact wk (hmx17 () trivial) [1, 2, 5, 10, 12, 17] [[_], [_]] [0, 1] rfl rfl
  refine any_cutX (V := Unit) (fun _ => True) 12 #[true, true, false, true, true, false, false, false, false, true, false, true, true, true, true, false, false, false, false, false, false] (fun _ => [(1, .pointer (some ⟨γ1 0, 0, none⟩)), (2, .pointer (some ⟨γ1 1, 0, none⟩)), (4, .pointer (some ⟨γ1 0, 1, none⟩)), (7, .pointer (some ⟨γ1 0, 1, none⟩)), (12, .pointer (some ⟨γ1 0, 2, none⟩)), (17, .int .i64 ((if (17 : Int) < ((na : Nat) : Int) then 17 else (na : Nat))))]) (fun _ => [bx (γ1 1) (#[.int .i64 0, .slice none 0 0, .slice none 0 0]) 27, bx (γ1 0) (#[.int .i64 now, .slice p n cap, .slice pa na ca]) 27]) ?_ (fun hmx5 => ?_)
  ·
   rintro _ _
   refine any_fork [2, 5, 10] (by kernel_rfl) (by simp) (each_cons _ rfl ?_ (each_cons _ rfl ?_ (each_cons _ rfl ?_ (each_nil))))
   ·
    refine qo0 1 [(2, .go (owns 1 1 1))] [1, 2, 7, 12, 17] [(5, .slice p n cap)] ?_
    refine od_ ?_
    exact wk (hmx7 () trivial) [1, 2, 5, 7, 12, 17] [[_], [_]] [0, 1] rfl rfl
   ·
    refine qo0 1 [(5, .go (owns 1 1 1))] [1, 2, 4, 12, 17] [(8, .slice p n cap)] ?_
    refine od_ ?_
    refine tk (m := 9) [6, 7] [] [1, 2, 4, 12, 17] [(10, .int .i64 ((if (33 : Int) < ((n : Nat) : Int) then 33 else (n : Nat))))] ([]) #[true, true, false, true, true, true, true, true, false, true, false, true, true, true, true, false, false, false, false, false, false] al0 ?_
    exact wk (hmx14 () trivial) [1, 2, 4, 10, 12, 17] [[_], [_]] [0, 1] rfl rfl
   ·
    refine qo0 1 [(10, .go (owns 1 2 1))] [1, 2, 4, 7, 17] [(13, .slice pa na ca)] ?_
    refine od_ ?_
    exact wk (hmx9 () trivial) [1, 2, 4, 7, 13, 17] [[_], [_]] [0, 1] rfl rfl
  refine any_cutX (V := Unit) (fun _ => True) 12 #[true, true, false, true, true, true, true, true, false, true, false, true, false, false, false, false, false, false, false, false, false] (fun _ => [(1, .pointer (some ⟨γ1 0, 0, none⟩)), (2, .pointer (some ⟨γ1 1, 0, none⟩)), (4, .pointer (some ⟨γ1 0, 1, none⟩)), (10, .int .i64 ((if (33 : Int) < ((n : Nat) : Int) then 33 else (n : Nat)))), (12, .pointer (some ⟨γ1 0, 2, none⟩)), (14, .pointer (some ⟨γ1 0, 2, none⟩))]) (fun _ => [bx (γ1 1) (#[.int .i64 0, .slice none 0 0, .slice none 0 0]) 27, bx (γ1 0) (#[.int .i64 now, .slice p n cap, .slice pa na ca]) 27]) ?_ (fun hmx4 => ?_)
  ·
   rintro _ _
   refine any_fork [2, 10, 12] (by kernel_rfl) (by simp) (each_cons _ rfl ?_ (each_cons _ rfl ?_ (each_cons _ rfl ?_ (each_nil))))
   ·
    refine qo0 1 [(2, .go (owns 1 1 1))] [1, 2, 10, 12, 14] [(5, .slice p n cap)] ?_
    refine od_ ?_
    exact wk (hmx6 () trivial) [1, 2, 5, 10, 12, 14] [[_], [_]] [0, 1] rfl rfl
   ·
    refine qo0 1 [(10, .go (owns 1 2 1))] [1, 2, 4, 10, 14] [(13, .slice pa na ca)] ?_
    refine od_ ?_
    exact wk (hmx8 () trivial) [1, 2, 4, 10, 13, 14] [[_], [_]] [0, 1] rfl rfl
   ·
    refine qo0 1 [(12, .go (owns 1 2 1))] [1, 2, 4, 10, 12] [(15, .slice pa na ca)] ?_
    refine od_ ?_
    refine tk (m := 9) [13, 14] [] [1, 2, 4, 10, 12] [(17, .int .i64 ((if (17 : Int) < ((na : Nat) : Int) then 17 else (na : Nat))))] ([]) #[true, true, false, true, true, true, true, true, false, true, false, true, true, true, true, false, false, false, false, false, false] al0 ?_
    exact wk (hmx14 () trivial) [1, 2, 4, 10, 12, 17] [[_], [_]] [0, 1] rfl rfl
  refine any_cutX (V := Unit) (fun _ => True) 13 #[true, true, true, true, true, false, false, false, false, true, true, true, false, false, false, false, false, false, false, false, false] (fun _ => [(1, .pointer (some ⟨γ1 0, 0, none⟩)), (2, .pointer (some ⟨γ1 1, 0, none⟩)), (5, .slice p n cap), (7, .pointer (some ⟨γ1 0, 1, none⟩)), (13, .slice pa na ca), (14, .pointer (some ⟨γ1 0, 2, none⟩))]) (fun _ => [bx (γ1 1) (#[.int .i64 0, .slice none 0 0, .slice none 0 0]) 27, bx (γ1 0) (#[.int .i64 now, .slice p n cap, .slice pa na ca]) 27]) ?_ (fun hmx3 => ?_)
  ·
   rintro _ _
   refine any_fork [5, 12] (by kernel_rfl) (by simp) (each_cons _ rfl ?_ (each_cons _ rfl ?_ (each_nil)))
   ·
    refine qo0 1 [(5, .go (owns 1 1 1))] [1, 2, 5, 13, 14] [(8, .slice p n cap)] ?_
    refine od_ ?_
    refine tk (m := 10) [6, 7] [] [1, 2, 5, 13, 14] [(10, .int .i64 ((if (33 : Int) < ((n : Nat) : Int) then 33 else (n : Nat))))] ([]) #[true, true, true, true, true, true, true, true, false, true, true, true, false, false, false, false, false, false, false, false, false] al0 ?_
    exact wk (hmx10 () trivial) [1, 2, 5, 10, 13, 14] [[_], [_]] [0, 1] rfl rfl
   ·
    refine qo0 1 [(12, .go (owns 1 2 1))] [1, 2, 5, 7, 13] [(15, .slice pa na ca)] ?_
    refine od_ ?_
    refine tk (m := 10) [13, 14] [] [1, 2, 5, 7, 13] [(17, .int .i64 ((if (17 : Int) < ((na : Nat) : Int) then 17 else (na : Nat))))] ([]) #[true, true, true, true, true, false, false, false, false, true, true, true, true, true, true, false, false, false, false, false, false] al0 ?_
    exact wk (hmx11 () trivial) [1, 2, 5, 7, 13, 17] [[_], [_]] [0, 1] rfl rfl
  refine any_cutX (V := Unit) (fun _ => True) 14 #[true, true, false, true, true, false, false, false, false, true, true, true, false, false, false, false, false, false, false, false, false] (fun _ => [(1, .pointer (some ⟨γ1 0, 0, none⟩)), (2, .pointer (some ⟨γ1 1, 0, none⟩)), (4, .pointer (some ⟨γ1 0, 1, none⟩)), (7, .pointer (some ⟨γ1 0, 1, none⟩)), (13, .slice pa na ca), (14, .pointer (some ⟨γ1 0, 2, none⟩))]) (fun _ => [bx (γ1 1) (#[.int .i64 0, .slice none 0 0, .slice none 0 0]) 27, bx (γ1 0) (#[.int .i64 now, .slice p n cap, .slice pa na ca]) 27]) ?_ (fun hmx2 => ?_)
  ·
   rintro _ _
   refine any_fork [2, 5, 12] (by kernel_rfl) (by simp) (each_cons _ rfl ?_ (each_cons _ rfl ?_ (each_cons _ rfl ?_ (each_nil))))
   ·
    refine qo0 1 [(2, .go (owns 1 1 1))] [1, 2, 7, 13, 14] [(5, .slice p n cap)] ?_
    refine od_ ?_
    exact wk (hmx3 () trivial) [1, 2, 5, 7, 13, 14] [[_], [_]] [0, 1] rfl rfl
   ·
    refine qo0 1 [(5, .go (owns 1 1 1))] [1, 2, 4, 13, 14] [(8, .slice p n cap)] ?_
    refine od_ ?_
    refine tk (m := 11) [6, 7] [] [1, 2, 4, 13, 14] [(10, .int .i64 ((if (33 : Int) < ((n : Nat) : Int) then 33 else (n : Nat))))] ([]) #[true, true, false, true, true, true, true, true, false, true, true, true, false, false, false, false, false, false, false, false, false] al0 ?_
    exact wk (hmx8 () trivial) [1, 2, 4, 10, 13, 14] [[_], [_]] [0, 1] rfl rfl
   ·
    refine qo0 1 [(12, .go (owns 1 2 1))] [1, 2, 4, 7, 13] [(15, .slice pa na ca)] ?_
    refine od_ ?_
    refine tk (m := 11) [13, 14] [] [1, 2, 4, 7, 13] [(17, .int .i64 ((if (17 : Int) < ((na : Nat) : Int) then 17 else (na : Nat))))] ([]) #[true, true, false, true, true, false, false, false, false, true, true, true, true, true, true, false, false, false, false, false, false] al0 ?_
    exact wk (hmx9 () trivial) [1, 2, 4, 7, 13, 17] [[_], [_]] [0, 1] rfl rfl
  refine any_cutX (V := Unit) (fun _ => True) 14 #[true, true, true, true, true, false, false, false, false, true, false, true, false, false, false, false, false, false, false, false, false] (fun _ => [(1, .pointer (some ⟨γ1 0, 0, none⟩)), (2, .pointer (some ⟨γ1 1, 0, none⟩)), (5, .slice p n cap), (7, .pointer (some ⟨γ1 0, 1, none⟩)), (12, .pointer (some ⟨γ1 0, 2, none⟩)), (14, .pointer (some ⟨γ1 0, 2, none⟩))]) (fun _ => [bx (γ1 1) (#[.int .i64 0, .slice none 0 0, .slice none 0 0]) 27, bx (γ1 0) (#[.int .i64 now, .slice p n cap, .slice pa na ca]) 27]) ?_ (fun hmx1 => ?_)
  ·
   rintro _ _
   refine any_fork [5, 10, 12] (by kernel_rfl) (by simp) (each_cons _ rfl ?_ (each_cons _ rfl ?_ (each_cons _ rfl ?_ (each_nil))))
   ·
    refine qo0 1 [(5, .go (owns 1 1 1))] [1, 2, 5, 12, 14] [(8, .slice p n cap)] ?_
    refine od_ ?_
    refine tk (m := 11) [6, 7] [] [1, 2, 5, 12, 14] [(10, .int .i64 ((if (33 : Int) < ((n : Nat) : Int) then 33 else (n : Nat))))] ([]) #[true, true, true, true, true, true, true, true, false, true, false, true, false, false, false, false, false, false, false, false, false] al0 ?_
    exact wk (hmx6 () trivial) [1, 2, 5, 10, 12, 14] [[_], [_]] [0, 1] rfl rfl
   ·
    refine qo0 1 [(10, .go (owns 1 2 1))] [1, 2, 5, 7, 14] [(13, .slice pa na ca)] ?_
    refine od_ ?_
    exact wk (hmx3 () trivial) [1, 2, 5, 7, 13, 14] [[_], [_]] [0, 1] rfl rfl
   ·
    refine qo0 1 [(12, .go (owns 1 2 1))] [1, 2, 5, 7, 12] [(15, .slice pa na ca)] ?_
    refine od_ ?_
    refine tk (m := 11) [13, 14] [] [1, 2, 5, 7, 12] [(17, .int .i64 ((if (17 : Int) < ((na : Nat) : Int) then 17 else (na : Nat))))] ([]) #[true, true, true, true, true, false, false, false, false, true, false, true, true, true, true, false, false, false, false, false, false] al0 ?_
    exact wk (hmx7 () trivial) [1, 2, 5, 7, 12, 17] [[_], [_]] [0, 1] rfl rfl
  refine any_fork [2, 5, 10, 12] (by kernel_rfl) (by simp) (each_cons _ rfl ?_ (each_cons _ rfl ?_ (each_cons _ rfl ?_ (each_cons _ rfl ?_ (each_nil)))))
  ·
   refine qo0 1 [(2, .go (owns 1 1 1))] [1, 2, 7, 12, 14] [(5, .slice p n cap)] ?_
   refine od_ ?_
   exact wk (hmx1 () trivial) [1, 2, 5, 7, 12, 14] [[_], [_]] [0, 1] rfl rfl
  ·
   refine qo0 1 [(5, .go (owns 1 1 1))] [1, 2, 4, 12, 14] [(8, .slice p n cap)] ?_
   refine od_ ?_
   refine tk (m := 12) [6, 7] [] [1, 2, 4, 12, 14] [(10, .int .i64 ((if (33 : Int) < ((n : Nat) : Int) then 33 else (n : Nat))))] ([]) #[true, true, false, true, true, true, true, true, false, true, false, true, false, false, false, false, false, false, false, false, false] al0 ?_
   exact wk (hmx4 () trivial) [1, 2, 4, 10, 12, 14] [[_], [_]] [0, 1] rfl rfl
  ·
   refine qo0 1 [(10, .go (owns 1 2 1))] [1, 2, 4, 7, 14] [(13, .slice pa na ca)] ?_
   refine od_ ?_
   exact wk (hmx2 () trivial) [1, 2, 4, 7, 13, 14] [[_], [_]] [0, 1] rfl rfl
  ·
   refine qo0 1 [(12, .go (owns 1 2 1))] [1, 2, 4, 7, 12] [(15, .slice pa na ca)] ?_
   refine od_ ?_
   refine tk (m := 12) [13, 14] [] [1, 2, 4, 7, 12] [(17, .int .i64 ((if (17 : Int) < ((na : Nat) : Int) then 17 else (na : Nat))))] ([]) #[true, true, false, true, true, false, false, false, false, true, false, true, true, true, true, false, false, false, false, false, false] al0 ?_
   exact wk (hmx5 () trivial) [1, 2, 4, 7, 12, 17] [[_], [_]] [0, 1] rfl rfl
 rintro _ _
 refine any_nil (by kernel_rfl) ?_
 refine ds_ (sq_ (ao_ (qo0 1 [(0, .go (owns 1 0 3))] [2] [(22, .agg #[.int .i64 now, .slice p ((min n 33)) cap, .slice pa ((min na 17)) ca])] (cP (fun v L' => ∃ q_ m_ c_ Y_ q2_ m2_ c2_ X_, v = .agg #[.int .i64 now, .slice q_ m_ c_, .slice q2_ m2_ c2_] ∧ L' = List.take 2 ([bx (γ1 1) (#[.int .i64 0, .slice none 0 0, .slice none 0 0]) 27, bx (γ1 0) (#[.int .i64 now, .slice p ((min n 33)) cap, .slice pa ((min na 17)) ca]) 27]) ++ (Y_ ++ (X_ ++ List.drop 2 ([bx (γ1 1) (#[.int .i64 0, .slice none 0 0, .slice none 0 0]) 27, bx (γ1 0) (#[.int .i64 now, .slice p ((min n 33)) cap, .slice pa ((min na 17)) ca]) 27]))) ∧ SlO 42 Y_ q_ m_ c_ (((ts.take (min n 33)))) ∧ SlO 32 X_ q2_ m2_ c2_ (((rs.take (min na 17))))) (fun args w => Tryz.call10 args w) (fun w hw => (copy_t now p ((min n 33)) cap ((ts.take (min n 33))) pa ((min na 17)) ca ((rs.take (min na 17))) w ((hts.kept hw.below).take (min n 33)) (by rw [List.length_take]; omega) (by omega) ((hrs.kept hw.below).take (min na 17)) (by rw [List.length_take]; omega) (by omega)).mono fun e w' ⟨q_, m_, c_, Y_, q2_, m2_, c2_, X_, he, h1, h2, hb, hY⟩ => ⟨_, _, he, ⟨q_, m_, c_, Y_, q2_, m2_, c2_, X_, rfl, rfl, h1, h2⟩, hw.joinT hb hY 2⟩) ?_))))
 rintro v508 L508 ⟨q508, m508, c508, Y508, p508, k508, d508, Yx508, rfl, rfl, hO508, hP508⟩
 have hm508 := hO508.len
 have hn508 := hP508.len
 refine mo0 1 [(2, .go (owns 0 0 3))] [2] (fun _ => []) (fun _ L => (L.set 0 (bx (γ1 1) (#[.int .i64 now, .slice q508 m508 c508, .slice p508 k508 d508]) 27))) (fun _ => on_ (ds_ (rt (owns 0 0 3) (.agg #[.int .i64 now, .slice q508 m508 c508, .slice p508 k508 d508]) ?_)))
 rw [take_min hn] at hO508
 rw [take_min hna] at hP508
 exact fun w' hw => ⟨_, _, _, _, _, _, _, _, rfl, hO508, hP508, hw.below, two_tails (Hs.pick [[bx (γ1 1) (#[.int .i64 now, .slice q508 m508 c508, .slice p508 k508 d508]) 27], [bx (γ1 0) (#[.int .i64 now, .slice p ((min n 33)) cap, .slice pa ((min na 17)) ca]) 27], Y508, Yx508] [2, 3] [0, 1] (by kernel_rfl) hw)⟩

set_option maxRecDepth 100000 in
theorem ot_t (o : OpA8) (now : Int) (p : Option Addr) (n cap : Nat) (ts : List Tim) (pa : Option Addr) (na ca : Nat) (rs : List Alm) (w : World)
 (h0 : 0 ≤ now) (h1 : now ≤ 1125899906842624)
 : Calls Tryz.prog 14 #[.agg #[.int .i64 o.kind, .int .i64 o.vcpu, .int .i64 o.al.vcpu, .int .i64 o.al.port, .int .i64 o.al.every, .int .i64 o.time, .bool o.on], .agg #[.int .i64 now, .slice p n cap, .slice pa na ca]] w fun e w' => e = .returned (.int .i64 (otV now o.on o.time)) ∧ Below w.heap.size w w' := by
 refine enter (Hs.start w) Tryz.func14 rfl Tryz.ntmps14 rfl (sq_ (ma0 [] [] (fun γ1 => [(2, .pointer (some ⟨γ1 0, 0, none⟩)), (3, .pointer (some ⟨γ1 1, 0, none⟩))]) (fun γ1 L => bx (γ1 1) (#[.int .i64 now, .slice p n cap, .slice pa na ca]) 27 :: bx (γ1 0) (#[.int .i64 o.kind, .int .i64 o.vcpu, .int .i64 o.al.vcpu, .int .i64 o.al.port, .int .i64 o.al.every, .int .i64 o.time, .bool o.on]) 34 :: L) (fun γ1 => ds_ (sq_ (sq_ (qa0 [(1, .go (owns 1 6 1))] [2, 3] [(6, .bool o.on)] (ds_ ?_)))))))
 rcases q3 : o.on with _ | _
 ·
  refine f_ (at_skip (ds_ (sq_ (qa0 [(1, .go (owns 1 5 1))] [] [(4, .int .i64 o.time)] (ds_ (rt ([]) (.int .i64 o.time) ?_))))))
  exact fun w' hw => ⟨by rw [ot_off], hw.below⟩
 ·
  refine t_ (sq_ ?_)
  have htb := tm_bnd o.time
  refine qa [(2, .go (owns 0 0 1)), (4, .go (owns 1 5 1)), (6, .fit)] [] [(4, .int .i64 (now + (Int.tmod o.time 4503599627370496)))] ([Fit .i64 (now + (Int.tmod o.time 4503599627370496))]) (al1 (fit64 (by omega) (by omega))) (ds_ (rt ([]) (.int .i64 (now + (Int.tmod o.time 4503599627370496))) ?_))
  exact fun w' hw => ⟨by rw [ot_on], hw.below⟩
end Go.Proofs.YtdbamgbgnpadjaaGreat

/-! Alarms: the document's answers; plain. -/
namespace Go.Proofs.YtdbamgbgnpadjaaGreat
open Go Go.RowKit

section
variable {now k v at_ to nx : Int} {ts : List Tim} {rs : List Alm} {x y : Alm} {t : Tim} {j : Nat}
theorem fd_none (h : getK Alm.vcpu rs k = none) : idxF (isV k) rs = -1 := by
  rcases idxF_cases (isV k) rs with ⟨e, _⟩ | ⟨i, x, _, hx, hp, _⟩
  · exact e
  · exact absurd (of_decide_eq_true hp) (getK_none.1 h x (List.mem_of_getElem? hx))
theorem fd_some (hr : Ris Alm.vcpu rs) (h : getK Alm.vcpu rs k = some x) : ∃ i : Nat, idxF (isV k) rs = (i : Int) ∧ rs[i]? = some x := by
  have hm := getK_mem h
  rcases idxF_cases (isV k) rs with ⟨_, hn⟩ | ⟨i, y, e, hy, hp, _⟩
  · have := hn x hm.1; rw [show isV k x = true from decide_eq_true hm.2] at this; cases this
  · refine ⟨i, e, ?_⟩
    have hk : y.vcpu = k := of_decide_eq_true hp
    rw [hr.inj hm.1 (List.mem_of_getElem? hy) (by rw [hm.2, hk])]; exact hy
theorem isV_no (h : ¬ x.vcpu = k) : isV k x = false := decide_eq_false h
theorem isV_yes (h : x.vcpu = k) : isV k x = true := decide_eq_true h
theorem none_on (h : ∀ (t : Nat) (y : Alm), t < j → rs[t]? = some y → isV k y = false) (hx : rs[j]? = some x) (e : isV k x = false) : ∀ (t : Nat) (y : Alm), t < j + 1 → rs[t]? = some y → isV k y = false := fun t y ht hy => by
  by_cases htj : t = j
  · subst htj; rw [hx] at hy; cases hy; exact e
  · exact h t y (by omega) hy
/-- What the document's Get and Sleeps answer. -/
def rgV (ts : List Tim) (rs : List Alm) (k : Int) : Value := match getK Alm.vcpu rs k with
  | some x => .tuple #[.agg #[.int .i64 x.vcpu, .int .i64 x.port, .int .i64 x.every], .int .i64 (atR ts (k - 1)), .bool true]
  | none => .tuple #[.agg #[.int .i64 0, .int .i64 0, .int .i64 0], .int .i64 0, .bool false]
def rslV (ts : List Tim) (k : Int) : Int := if vcB k = true then atR ts (15 + k) else 0
theorem rsl_no (h : vcB k = false) : rslV ts k = 0 := by simp [rslV, h]
theorem rsl_ok (h : vcB k = true) : rslV ts k = atR ts (15 + k) := by simp [rslV, h]
end
end Go.Proofs.YtdbamgbgnpadjaaGreat

/-! Alarms: what stands after time has passed, number by number; plain. -/
namespace Go.Proofs.YtdbamgbgnpadjaaGreat
open Go Go.RowKit

section
variable {now k v at_ to nx : Int} {ts : List Tim} {rs : List Alm} {x y : Alm} {t : Tim} {j : Nat}
/-- What becomes of a timer that has fired. -/
def finT (to : Int) (rs : List Alm) (t : Tim) : Option Tim := if t.id < 16 then match getK Alm.vcpu rs (t.id + 1) with
  | some x => (nextA x t.due to).map fun nx => ⟨t.id, nx⟩
  | none => none
  else none
theorem fin_lo (h : t.id < 16) (hx : getK Alm.vcpu rs (t.id + 1) = some x) : finT to rs t = (nextA x t.due to).map fun nx => ⟨t.id, nx⟩ := by simp only [finT, if_pos h, hx]
theorem fin_hi (h : ¬ t.id < 16) : finT to rs t = none := by simp only [finT, if_neg h]
theorem take_pair {α : Type} {R : α → α → Prop} {l : List α} {a b : α} (hp : l.Pairwise R) (ha : a ∈ l.take j) (hb : l[j]? = some b) : R a b := by
  obtain ⟨i, hi⟩ := List.mem_iff_getElem?.1 ha
  rw [List.getElem?_take] at hi
  split at hi
  · rename_i hij
    obtain ⟨h1, e1⟩ := List.getElem?_eq_some_iff.1 hi
    obtain ⟨h2, e2⟩ := List.getElem?_eq_some_iff.1 hb
    rw [← e1, ← e2]
    exact List.pairwise_iff_getElem.1 hp i j h1 h2 hij
  · cases hi
theorem left_none (hg : GoodW now ts) (h : t ∈ sortT (duL ts to)) : getK Tim.id (leL ts to) t.id = none := by
  refine getK_none.2 fun y hy e => ?_
  have h1 := mem_leL.1 hy
  have h2 := fired_tm hg h
  have := hg.rs.inj h1.1 h2.2.2.2.2 e
  subst this
  omega
theorem states (g : GoodA now ts rs) (h1 : now ≤ to) (h2 : to ≤ 1125899906842624) : ∀ j ≤ (sortT (duL ts to)).length,
    (∀ k, (∀ t ∈ (sortT (duL ts to)).take j, t.id ≠ k) → getK Tim.id (rgT to ts rs j) k = getK Tim.id (leL ts to) k) ∧
    (∀ t ∈ (sortT (duL ts to)).take j, getK Tim.id (rgT to ts rs j) t.id = finT to rs t) ∧
    (∀ v, (∀ t ∈ (sortT (duL ts to)).take j, t.id < 16 → t.id + 1 ≠ v) → getK Alm.vcpu (rgR to ts rs j) v = getK Alm.vcpu rs v) ∧
    (∀ t ∈ (sortT (duL ts to)).take j, t.id < 16 → getK Alm.vcpu (rgR to ts rs j) (t.id + 1) = if (finT to rs t).isSome then getK Alm.vcpu rs (t.id + 1) else none)
  | 0, _ => ⟨fun _ _ => rfl, fun t ht => by simp at ht, fun _ _ => rfl, fun t ht => by simp at ht⟩
  | j + 1, hj => by
    obtain ⟨hT1, hT2, hR1, hR2⟩ := states g h1 h2 j (by omega)
    obtain ⟨hI, _, hR0⟩ := rings_inv g h1 h2 j (by omega)
    obtain ⟨t, hx⟩ : ∃ t, (sortT (duL ts to))[j]? = some t := ⟨_, List.getElem?_eq_getElem (by omega)⟩
    have hne := fun {b} (hb : b ∈ (sortT (duL ts to)).take j) => take_pair (fired_ids g.gw (to := to)) hb hx
    have hnl := left_none g.gw (to := to) (List.mem_of_getElem? hx)
    have hTt : getK Tim.id (rgT to ts rs j) t.id = none := by rw [hT1 t.id fun b hb => hne hb]; exact hnl
    have hrT : Ris Tim.id (rgT to ts rs j) := (wheel_iff.1 hI.wh').rs
    rw [take_one hx]
    by_cases hi : t.id < 16
    · obtain ⟨x, hz⟩ := hI.pn' t (mem_at hx) hi
      have hz2 := hz
      rw [hR0 t (mem_at hx)] at hz2
      have hzv := (getK_mem hz).2
      cases hn : nextA x t.due to with
      | some nx =>
        have e := rg_go hx hi hz hn
        have ef : finT to rs t = some ⟨t.id, nx⟩ := by rw [fin_lo hi hz2, hn]; rfl
        rw [rgT_of e, rgR_of e]
        refine ⟨fun k hk => ?_, fun b hb => ?_, fun v hv => ?_, fun b hb hbi => ?_⟩
        · rw [get_tput hrT (fun e => hk t (by simp) e.symm)]
          exact hT1 k fun b hb => hk b (by simp [hb])
        · rcases List.mem_append.1 hb with hb | hb
          · rw [get_tput hrT (hne hb)]; exact hT2 b hb
          · rw [List.mem_singleton.1 hb, get_tput_self hrT, ef]
        · exact hR1 v fun b hb => hv b (by simp [hb])
        · rcases List.mem_append.1 hb with hb | hb
          · exact hR2 b hb hbi
          · rw [List.mem_singleton.1 hb, ef, hz, hz2]; rfl
      | none =>
        have e := rg_no hx hi hz hn
        have ef : finT to rs t = none := by rw [fin_lo hi hz2, hn]; rfl
        rw [rgT_of e, rgR_of e, hzv]
        refine ⟨fun k hk => ?_, fun b hb => ?_, fun v hv => ?_, fun b hb hbi => ?_⟩
        · exact hT1 k fun b hb => hk b (by simp [hb])
        · rcases List.mem_append.1 hb with hb | hb
          · exact hT2 b hb
          · rw [List.mem_singleton.1 hb, hTt, ef]
        · rw [get_rdrop hI.rr' (fun e => hv t (by simp) hi e.symm)]
          exact hR1 v fun b hb => hv b (by simp [hb])
        · rcases List.mem_append.1 hb with hb | hb
          · rw [get_rdrop hI.rr' (by have := hne hb; omega)]; exact hR2 b hb hbi
          · rw [List.mem_singleton.1 hb, ef, get_rdrop_self]; rfl
    · have e := rg_hi (rs := rs) hx hi
      have ef : finT to rs t = none := fin_hi hi
      rw [rgT_of e, rgR_of e]
      refine ⟨fun k hk => ?_, fun b hb => ?_, fun v hv => ?_, fun b hb hbi => ?_⟩
      · exact hT1 k fun b hb => hk b (by simp [hb])
      · rcases List.mem_append.1 hb with hb | hb
        · exact hT2 b hb
        · rw [List.mem_singleton.1 hb, hTt, ef]
      · exact hR1 v fun b hb => hv b (by simp [hb])
      · rcases List.mem_append.1 hb with hb | hb
        · exact hR2 b hb hbi
        · rw [List.mem_singleton.1 hb] at hbi; exact absurd hbi hi
/-- The timer of a number, after. -/
theorem get_left (hg : GoodW now ts) : getK Tim.id (leL ts to) k = match getK Tim.id ts k with
    | some t => if to < t.due then some t else none
    | none => none := by
  have hr : Ris Tim.id (leL ts to) := by rw [leL_filter]; exact hg.rs.filter _
  cases e : getK Tim.id ts k with
  | none => exact getK_none.2 fun y hy => getK_none.1 e y (mem_leL.1 hy).1
  | some t =>
    have hm := (getK_iff hg.rs).1 e
    simp only
    split
    · rename_i h; exact (getK_iff hr).2 ⟨mem_leL.2 ⟨hm.1, h⟩, hm.2⟩
    · rename_i h
      refine getK_none.2 fun y hy hk => ?_
      have h1 := mem_leL.1 hy
      have := hg.rs.inj h1.1 hm.1 (by rw [hk, hm.2])
      subst this
      exact h h1.2
theorem after_T (g : GoodA now ts rs) (h1 : now ≤ to) (h2 : to ≤ 1125899906842624) (k : Int) : getK Tim.id (ringsV to ts rs).1 k = match getK Tim.id ts k with
    | some t => if to < t.due then some t else finT to rs t
    | none => none := by
  obtain ⟨hT1, hT2, _, _⟩ := states g h1 h2 _ (Nat.le_refl _)
  rw [List.take_length] at hT1 hT2
  have e : (ringsV to ts rs).1 = rgT to ts rs (sortT (duL ts to)).length := by rw [rgT, rg_end (Nat.le_refl _)]
  rw [e]
  by_cases hf : ∃ t ∈ sortT (duL ts to), t.id = k
  · obtain ⟨t, ht, rfl⟩ := hf
    have hm := fired_tm g.gw ht
    rw [hT2 t ht, (getK_iff g.gw.rs).2 ⟨hm.2.2.2.2, rfl⟩]
    simp only
    rw [if_neg (by omega)]
  · rw [hT1 k fun t ht e => hf ⟨t, ht, e⟩, get_left g.gw]
    cases e : getK Tim.id ts k with
    | none => rfl
    | some t =>
      have hm := getK_mem e
      simp only
      split
      · rfl
      · rename_i h; exact absurd ⟨t, mem_sortT.2 (mem_duL.2 ⟨hm.1, by omega⟩), hm.2⟩ hf
theorem after_R (g : GoodA now ts rs) (h1 : now ≤ to) (h2 : to ≤ 1125899906842624) (v : Int) (hv1 : 1 ≤ v) (hv2 : v ≤ 16) : getK Alm.vcpu (ringsV to ts rs).2.1 v = match getK Tim.id ts (v - 1) with
    | some t => if to < t.due then getK Alm.vcpu rs v else if (finT to rs t).isSome then getK Alm.vcpu rs v else none
    | none => none := by
  obtain ⟨_, _, hR1, hR2⟩ := states g h1 h2 _ (Nat.le_refl _)
  rw [List.take_length] at hR1 hR2
  have e : (ringsV to ts rs).2.1 = rgR to ts rs (sortT (duL ts to)).length := by rw [rgR, rg_end (Nat.le_refl _)]
  rw [e]
  by_cases hf : ∃ t ∈ sortT (duL ts to), t.id = v - 1
  · obtain ⟨t, ht, hk⟩ := hf
    have hm := fired_tm g.gw ht
    have hv : v = t.id + 1 := by omega
    subst hv
    rw [hR2 t ht (by omega), show t.id + 1 - 1 = t.id by omega, (getK_iff g.gw.rs).2 ⟨hm.2.2.2.2, rfl⟩]
    simp only
    rw [if_neg (show ¬ to < t.due by omega)]
  · rw [hR1 v fun t ht _ e => hf ⟨t, ht, by omega⟩]
    cases e : getK Tim.id ts (v - 1) with
    | none =>
      have := g.lk v hv1 hv2
      rw [e] at this
      simp only
      exact Option.isNone_iff_eq_none.1 (by cases h : getK Alm.vcpu rs v with
        | none => rfl
        | some x => rw [h] at this; cases this)
    | some t =>
      have hm := getK_mem e
      simp only
      rw [if_pos]
      have : ¬ t.due ≤ to := fun h => hf ⟨t, mem_sortT.2 (mem_duL.2 ⟨hm.1, h⟩), hm.2⟩
      omega
end
end Go.Proofs.YtdbamgbgnpadjaaGreat

/-! Alarms: what the document's movers leave; plain. -/
namespace Go.Proofs.YtdbamgbgnpadjaaGreat
open Go Go.RowKit

section
variable {now k v at_ to nx : Int} {ts : List Tim} {rs : List Alm} {x y : Alm} {t : Tim} {j : Nat}
theorem with_not (h : GoodW now ts) (e : getK Tim.id ts k = none) : wiL ts k 0 32 = ts := mk0_is wiG_key h.rs fun z => by
  constructor
  · intro hx
    have := h.tm z hx
    exact ⟨by omega, by omega, wiG_old h hx (getK_none.1 e z hx)⟩
  · rintro ⟨h1, _, h3⟩
    by_cases hk : z.id = k
    · unfold wiG at h3; rw [if_pos hk] at h3; simp at h3
    · exact wiG_mem h hk h3
/-- A wheel without a timer. -/
def tdel (ts : List Tim) (k : Int) : List Tim := match getK Tim.id ts k with
  | some _ => delK Tim.id ts k
  | none => ts
theorem wi_del (h : GoodW now ts) : wiL ts k 0 32 = tdel ts k := by
  unfold tdel
  cases e : getK Tim.id ts k with
  | none => exact with_not h e
  | some x => exact with_del h e
theorem wi_put (h : GoodW now ts) (h0 : 0 ≤ k) (h1 : k < 32) (ha : 0 < at_) : wiL ts k at_ 32 = tput ts k at_ := by
  unfold tput
  cases e : getK Tim.id ts k with
  | none => exact with_ins h ⟨h0, h1⟩ ha e
  | some x => exact with_put h ⟨h0, h1⟩ ha e
theorem mem_tdel (hr : Ris Tim.id ts) : t ∈ tdel ts k ↔ t ∈ ts ∧ t.id ≠ k := by
  unfold tdel
  cases e : getK Tim.id ts k with
  | none => exact ⟨fun h => ⟨h, getK_none.1 e t h⟩, fun h => h.1⟩
  | some x => exact mem_delK hr e
theorem ris_tdel (hr : Ris Tim.id ts) : Ris Tim.id (tdel ts k) := by
  unfold tdel
  cases e : getK Tim.id ts k with
  | none => exact hr
  | some x => exact ris_delK hr e
theorem good_tdel (h : GoodW now ts) : GoodW now (tdel ts k) := ⟨h.n0, h.n1, ris_tdel h.rs, fun t ht => h.tm t ((mem_tdel h.rs).1 ht).1⟩
theorem tput_tdel (hr : Ris Tim.id ts) : tput (tdel ts k) k at_ = tput ts k at_ := ris_ext (ris_tput (ris_tdel hr)) (ris_tput hr) fun t => by
  rw [mem_tput (ris_tdel hr), mem_tput hr, mem_tdel hr]
  constructor
  · rintro (e | ⟨⟨h1, h2⟩, _⟩)
    · exact .inl e
    · exact .inr ⟨h1, h2⟩
  · rintro (e | ⟨h1, h2⟩)
    · exact .inl e
    · exact .inr ⟨⟨h1, h2⟩, h2⟩
/-- The document's with: the wheel. -/
theorem wi_two (h : GoodW now ts) (h0 : 0 ≤ k) (h1 : k < 32) (ha : 0 < at_) : wiL (wiL ts k 0 32) k at_ 32 = tput ts k at_ := by
  rw [wi_del h, wi_put (good_tdel h) h0 h1 ha, tput_tdel h.rs]
/-- The document's with: the rows. -/
def wrG (rs : List Alm) (x : Alm) (n : Int) : Option Alm := if n + 1 = x.vcpu then some x else getK Alm.vcpu rs (n + 1)
def wrL (rs : List Alm) (x : Alm) (c : Nat) : List Alm := mk0 (wrG rs x) c
theorem wr_on : wrL rs x (j + 1) = wrL rs x j ++ (wrG rs x (j : Int)).toList := mk0_on
theorem wr_own (e : ((j + 1 : Nat) : Int) = (x.vcpu : Int)) : (wrG rs x (j : Int)).toList = [x] := by unfold wrG; rw [if_pos (by omega)]; rfl
theorem wr_row (e : ¬ ((j + 1 : Nat) : Int) = (x.vcpu : Int)) (h : getK Alm.vcpu rs ((j + 1 : Nat) : Int) = some y) : (wrG rs x (j : Int)).toList = [y] := by
  unfold wrG; rw [if_neg (by omega), show (j : Int) + 1 = ((j + 1 : Nat) : Int) by omega, h]; rfl
theorem wr_none (e : ¬ ((j + 1 : Nat) : Int) = (x.vcpu : Int)) (h : getK Alm.vcpu rs ((j + 1 : Nat) : Int) = none) : (wrG rs x (j : Int)).toList = [] := by
  unfold wrG; rw [if_neg (by omega), show (j : Int) + 1 = ((j + 1 : Nat) : Int) by omega, h]; rfl
theorem wr_key (n : Int) (y : Alm) (h : wrG rs x n = some y) : y.vcpu - 1 = n := by
  unfold wrG at h
  split at h
  · cases h; omega
  · have := (getK_mem h).2; omega
theorem ris_vc {l : List Alm} (h : Ris Alm.vcpu l) : Ris (fun y : Alm => y.vcpu - 1) l := h.imp fun h => Int.sub_lt_sub_right h 1
theorem wr_put (hr : Ris Alm.vcpu rs) (hal : ∀ y ∈ rs, almB y = true) (hx : almB x = true) : wrL (rdrop rs x.vcpu) x 16 = rput rs x := mk0_is wr_key (ris_vc (ris_rput hr)) fun z => by
  rw [mem_rput hr]
  have hxi := alm_id hx
  constructor
  · rintro (e | ⟨h1, h2⟩)
    · subst e
      exact ⟨by omega, by omega, by unfold wrG; rw [if_pos (by omega)]⟩
    · have hzi := alm_id (hal z h1)
      refine ⟨by omega, by omega, ?_⟩
      unfold wrG
      rw [if_neg (by omega), show z.vcpu - 1 + 1 = z.vcpu by omega, get_rdrop hr h2]
      exact (getK_iff hr).2 ⟨h1, rfl⟩
  · rintro ⟨h1, _, h3⟩
    unfold wrG at h3
    split at h3
    · cases h3; exact .inl rfl
    · rename_i hne
      have hm := getK_mem h3
      exact .inr (mem_rdrop.1 hm.1)
theorem rput_same (hr : Ris Alm.vcpu rs) (h : getK Alm.vcpu rs k = some x) : rput rs x = rs := ris_ext (ris_rput hr) hr fun z => by
  have hm := getK_mem h
  rw [mem_rput hr]
  constructor
  · rintro (e | ⟨h1, _⟩)
    · subst e; exact hm.1
    · exact h1
  · intro h1
    by_cases e : z.vcpu = x.vcpu
    · exact .inl (hr.inj h1 hm.1 e)
    · exact .inr ⟨h1, e⟩
/-- What is to ring still stands nowhere. -/
theorem rgT_none (g : GoodA now ts rs) (h1 : now ≤ to) (h2 : to ≤ 1125899906842624) : ∀ j ≤ (sortT (duL ts to)).length, ∀ t ∈ (sortT (duL ts to)).drop j, getK Tim.id (rgT to ts rs j) t.id = none
  | 0, _ => fun t ht => left_none g.gw (by simpa using ht)
  | j + 1, hj => fun t ht => by
    obtain ⟨hI, _, hR⟩ := rings_inv g h1 h2 j (by omega)
    obtain ⟨u, hx⟩ : ∃ u, (sortT (duL ts to))[j]? = some u := ⟨_, List.getElem?_eq_getElem (by omega)⟩
    have hne := pair_at (fired_ids g.gw (to := to)) hx ht
    have hd : t ∈ (sortT (duL ts to)).drop j := by
      rw [← List.drop_drop] at ht
      exact List.mem_of_mem_drop ht
    have ih := rgT_none g h1 h2 j (by omega) t hd
    by_cases hi : u.id < 16
    · obtain ⟨z, hz⟩ := hI.pn' u (mem_at hx) hi
      cases hn : nextA z u.due to with
      | none => rw [rgT_of (rg_no hx hi hz hn)]; exact ih
      | some n1 => rw [rgT_of (rg_go hx hi hz hn), get_tput (wheel_iff.1 hI.wh').rs (fun e => hne e.symm)]; exact ih
    · rw [rgT_of (rg_hi (rs := rs) hx hi)]; exact ih
theorem rdrop_yes (hx : rs[j]? = some y) (h : y.vcpu ≠ k) : rdrop (rs.take (j + 1)) k = rdrop (rs.take j) k ++ [y] := by
  rw [take_one hx]; unfold rdrop
  rw [List.filter_append, List.filter_cons_of_pos (by simp [isV, h])]; rfl
theorem rdrop_no (hx : rs[j]? = some y) (h : ¬ y.vcpu ≠ k) : rdrop (rs.take (j + 1)) k = rdrop (rs.take j) k := by
  rw [take_one hx]; unfold rdrop
  rw [List.filter_append, List.filter_cons_of_neg (by have := Classical.not_not.1 h; simp [isV, this])]; simp
theorem rdrop_len : (rdrop rs k).length ≤ rs.length := List.length_filter_le ..
/-- An op's kind. -/
def kdV (k : Int) : Int := Int.tmod (IntKind.u64.wrap k) 8
/-- What comes of alarms by an op, and what rings. -/
def opV8 (now : Int) (ts : List Tim) (rs : List Alm) (o : OpA8) : A4 :=
  if kdV o.kind = 0 ∨ kdV o.kind = 1 then startV now ts rs o.al (otV now o.on o.time) else if kdV o.kind = 2 then stopV now ts rs o.vcpu else if kdV o.kind = 3 then sleepV now ts rs o.vcpu (otV now o.on o.time) else if kdV o.kind = 4 then wakeV now ts rs o.vcpu else passA now ts rs (otV now o.on o.time)
def opR8 (now : Int) (ts : List Tim) (rs : List Alm) (o : OpA8) : List Rng :=
  if kdV o.kind = 0 ∨ kdV o.kind = 1 ∨ kdV o.kind = 2 ∨ kdV o.kind = 3 ∨ kdV o.kind = 4 then [] else passR now ts rs (otV now o.on o.time)
theorem op_bad {o : OpA8} (g : alB now ts rs = false) : opV8 now ts rs o = (0, [], [], 280) ∧ opR8 now ts rs o = [] := by
  constructor
  · unfold opV8
    split
    · exact startV_bad g
    · split
      · exact stopV_bad g
      · split
        · exact sleepV_bad g
        · split
          · exact wakeV_bad g
          · exact passA_bad g
  · unfold opR8
    split
    · rfl
    · exact passR_bad g
end
end Go.Proofs.YtdbamgbgnpadjaaGreat

/-! Alarms: the document's answers. -/
namespace Go.Proofs.YtdbamgbgnpadjaaGreat
open Go Go.RowKit

set_option maxRecDepth 100000 in
theorem rfind_t (now : Int) (p : Option Addr) (n cap : Nat) (ts : List Tim) (pa : Option Addr) (na ca : Nat) (rs : List Alm) (k : Int) (w : World)
 (hts : Sv w p ts) (hn : n = ts.length) (hb : n ≤ 1000)
 (hrs : Sv w pa rs) (hna : na = rs.length) (hba : na ≤ 1000)
 : Calls Tryz.prog 47 #[.agg #[.int .i64 now, .slice p n cap, .slice pa na ca], .int .i64 k] w fun e w' => e = .returned (.int .i64 (idxF (isV k) rs)) ∧ Below w.heap.size w w' := by
 refine enter (Hs.start w) Tryz.func47 rfl Tryz.ntmps47 rfl (sq_ (ma0 [] [1] (fun γ1 => [(2, .pointer (some ⟨γ1 0, 0, none⟩))]) (fun γ1 L => bx (γ1 0) (#[.int .i64 now, .slice p n cap, .slice pa na ca]) 27 :: L) (fun γ1 => ds_ (sq_ (sq_ (qa0 [(1, .go (owns 0 2 1))] [1] [(8, .slice pa na ca), (9, .int .i64 ((na : Nat))), (10, .int .i64 0)] (ds_ (at_block (at_loop (α := Nat) [1, 8, 9, 10] (fun j => [(1, .int .i64 k), (8, .slice pa na ca), (9, .int .i64 ((na : Nat))), (10, .int .i64 ((j : Nat)))]) (fun j => [bx (γ1 0) (#[.int .i64 now, .slice p n cap, .slice pa na ca]) 27]) (fun j => j ≤ na ∧ ∀ (t : Nat) (y : Alm), t < j → rs[t]? = some y → isV k y = false) (fun j => na - j) 0 (by kernel_rfl) rfl ⟨Nat.zero_le _, fun t y h => by omega⟩ ?_)))))))))
 rintro j
 rintro ⟨hj, hI⟩
 refine sq_ ?_
 by_cases q4 : ((j : Nat) : Int) < ((na : Nat) : Int)
 ·
  refine qa [(0, .yes)] [1, 8, 9, 10] [(11, .bool true)] ([((j : Nat) : Int) < ((na : Nat) : Int)]) (al1 q4) (ds_ (sq_ (t_ (at_skip (ds_ (sq_ (at_block (sq_ ?_))))))))
  obtain ⟨b7, o7, rfl⟩ := hrs.pos (i := j) (by omega)
  obtain ⟨x9, hx9⟩ := get_some (l := rs) (m := j) (by omega)
  refine ma [(1, .at b7 o7 j), (2, .go (outs b7 (o7 + j * 3) [.int .i64 x9.vcpu, .int .i64 x9.port, .int .i64 x9.every])), (5, .go (owns 0 0 3))] [1, 8, 9, 10] (fun γ10 => [(5, .int .i64 ((j : Nat))), (6, .pointer (some ⟨γ10 0, 0, none⟩))]) (fun γ10 L => bx (γ10 0) (#[.int .i64 x9.vcpu, .int .i64 x9.port, .int .i64 x9.every]) 32 :: L) (fun γ10 => [(some ⟨b7, o7, none⟩ : Option Addr) = some ⟨b7, o7, none⟩, ((j : Nat)) = ((j : Nat) : Int), j < na] ++ (cellsP w b7 (o7 + j * 3) [.int .i64 x9.vcpu, .int .i64 x9.port, .int .i64 x9.every])) (fun γ10 => (alA (al2 rfl (al2 rfl (al1 (by omega)))) (rd_pre (hrs.get hx9) _ rfl))) (fun γ10 => ds_ (sq_ ?_))
  by_cases q12 : (x9.vcpu : Int) = (k : Int)
  ·
   refine qa [(1, .go (owns 0 0 1)), (3, .yes)] [1, 5, 8, 9, 10] [(18, .bool true)] ([(x9.vcpu : Int) = (k : Int)]) (al1 q12) (ds_ (t_ (sq_ (qa0 [] [] [(4, .int .i64 ((j : Nat)))] (ds_ (rt ([]) (.int .i64 ((j : Nat))) ?_))))))
   exact fun w' hw => ⟨by rw [idxF_hit hI hx9 (isV_yes q12)], hw.below⟩
  ·
   refine qa [(1, .go (owns 0 0 1)), (3, .no)] [1, 5, 8, 9, 10] [(18, .bool false)] ([¬ ((x9.vcpu : Int) = (k : Int))]) (al1 q12) (ds_ (f_ (at_skip (done_block (ds_ (qa [(0, .fit)] [1, 8, 9] [(10, .int .i64 ((j + 1 : Nat)))] ([Fit .i64 ((j + 1 : Nat))]) (al1 (fit64 (by omega) (by omega))) (Done.drop (L' := [bx (γ1 0) (#[.int .i64 now, .slice p n cap, .slice (some ⟨b7, o7, none⟩) na ca]) 27]) ?_ (List.Sublist.cons _ (List.Sublist.cons_cons _ (List.Sublist.refl _))))))))))
   exact dr [1, 8, 9, 10] (j + 1) ⟨by omega, none_on hI hx9 (isV_no q12)⟩
 ·
  refine qa [(0, .no)] [1, 8, 9, 10] [(11, .bool false)] ([¬ (((j : Nat) : Int) < ((na : Nat) : Int))]) (al1 q4) (ds_ (sq_ (f_ (at_leave _ rfl (ds_ (sq_ (qa0 [] [] [(4, .int .i64 (-1))] (ds_ (rt ([]) (.int .i64 (-1)) ?_)))))))))
  exact fun w' hw => ⟨by rw [idxF_miss hI (by omega)], hw.below⟩

set_option maxRecDepth 100000 in
theorem rright8_t (now : Int) (p : Option Addr) (n cap : Nat) (ts : List Tim) (pa : Option Addr) (na ca : Nat) (rs : List Alm) (w : World)
 (hts : Sv w p ts) (hn : n = ts.length) (hb : n ≤ 1000)
 (hrs : Sv w pa rs) (hna : na = rs.length) (hba : na ≤ 1000)
 : Calls Tryz.prog 18 #[.agg #[.int .i64 now, .slice p n cap, .slice pa na ca]] w fun e w' => e = .returned (.bool (alB now ts rs)) ∧ Below w.heap.size w w' := by
 refine enter (Hs.start w) Tryz.func18 rfl Tryz.ntmps18 rfl (sq_ (ma0 [] [] (fun γ1 => [(1, .pointer (some ⟨γ1 0, 0, none⟩))]) (fun γ1 L => bx (γ1 0) (#[.int .i64 now, .slice p n cap, .slice pa na ca]) 27 :: L) (fun γ1 => ds_ (sq_ (sq_ (qa0 [(1, .go (owns 0 2 1))] [1] [(7, .slice pa na ca), (8, .int .i64 ((na : Nat))), (9, .int .i64 0)] (ds_ (at_block (at_loop (α := Nat) [1, 7, 8, 9] (fun j => [(1, .pointer (some ⟨γ1 0, 0, none⟩)), (7, .slice pa na ca), (8, .int .i64 ((na : Nat))), (9, .int .i64 ((j : Nat)))]) (fun j => [bx (γ1 0) (#[.int .i64 now, .slice p n cap, .slice pa na ca]) 27]) (fun j => j ≤ na ∧ Ris Alm.vcpu (rs.take j) ∧ ∀ y ∈ rs.take j, almB y = true) (fun j => na - j) 0 (by kernel_rfl) rfl ⟨Nat.zero_le _, ris_take0T, all_take0T⟩ ?_)))))))))
 rintro j
 rintro ⟨hj, hR, hA⟩
 refine sq_ ?_
 by_cases q4 : ((j : Nat) : Int) < ((na : Nat) : Int)
 ·
  refine qa [(0, .yes)] [1, 7, 8, 9] [(10, .bool true)] ([((j : Nat) : Int) < ((na : Nat) : Int)]) (al1 q4) (ds_ (sq_ (t_ (at_skip (ds_ (sq_ (at_block (sq_ ?_))))))))
  obtain ⟨b7, o7, rfl⟩ := hrs.pos (i := j) (by omega)
  obtain ⟨x9, hx9⟩ := get_some (l := rs) (m := j) (by omega)
  refine ma [(1, .at b7 o7 j), (2, .go (outs b7 (o7 + j * 3) [.int .i64 x9.vcpu, .int .i64 x9.port, .int .i64 x9.every])), (5, .go (owns 0 0 3))] [1, 7, 8, 9] (fun γ10 => [(3, .int .i64 ((j : Nat))), (4, .pointer (some ⟨γ10 0, 0, none⟩))]) (fun γ10 L => bx (γ10 0) (#[.int .i64 x9.vcpu, .int .i64 x9.port, .int .i64 x9.every]) 32 :: L) (fun γ10 => [(some ⟨b7, o7, none⟩ : Option Addr) = some ⟨b7, o7, none⟩, ((j : Nat)) = ((j : Nat) : Int), j < na] ++ (cellsP w b7 (o7 + j * 3) [.int .i64 x9.vcpu, .int .i64 x9.port, .int .i64 x9.every])) (fun γ10 => (alA (al2 rfl (al2 rfl (al1 (by omega)))) (rd_pre (hrs.get hx9) _ rfl))) (fun γ10 => ds_ (sq_ ?_))
  rcases q11 : almB x9 with _ | _
  ·
   refine at_calm rfl (by kernel_rfl) (by kernel_rfl) ?_
   refine cm 1 [(0, .go (owns 0 0 3))] [1, 3, 4, 7, 8, 9] [(14, .agg #[.int .i64 x9.vcpu, .int .i64 x9.port, .int .i64 x9.every])] ([]) (by kernel_rfl) rfl al0 ?_
   refine cK (.bool false) (fun args w => Tryz.call44 args w) (fun w hw => by have := ralm_t x9 w; rw [q11] at this; exact this) ?_
   refine cm 14 [] [1, 7, 8, 9] [(17, .bool true), (20, undef), (27, undef), (29, undef)] ([]) (by kernel_rfl) rfl al0 ?_
   refine cm 3 [] [1, 7, 8, 9] [(32, .bool true)] ([]) (by kernel_rfl) rfl al0 ?_
   refine calm_nil' ?_
   refine ds_ (t_ (sq_ (qa0 [] [] [(2, .bool false)] (ds_ (rt ([]) (.bool false) ?_)))))
   exact fun w' hw => ⟨by rw [al_bad_row hx9 q11], hw.below⟩
  ·
   by_cases q16 : ((j : Nat) : Int) > (0 : Int)
   ·
    obtain ⟨x17, hx17⟩ := get_some (l := rs) (m := j - 1) (by omega)
    by_cases q18 : (x17.vcpu : Int) ≥ (x9.vcpu : Int)
    ·
     refine at_calm rfl (by kernel_rfl) (by kernel_rfl) ?_
     refine cm 1 [(0, .go (owns 0 0 3))] [1, 3, 4, 7, 8, 9] [(14, .agg #[.int .i64 x9.vcpu, .int .i64 x9.port, .int .i64 x9.every])] ([]) (by kernel_rfl) rfl al0 ?_
     refine cK (.bool true) (fun args w => Tryz.call44 args w) (fun w hw => by have := ralm_t x9 w; rw [q11] at this; exact this) ?_
     refine cm 14 [(5, .yes), (8, .go (owns 1 2 1)), (10, .fit), (11, .at b7 o7 (j - 1)), (13, .go (outs b7 (o7 + (j - 1) * 3) [.int .i64 x17.vcpu])), (15, .go (owns 0 0 1))] [1, 7, 8, 9] [(17, .bool false), (20, .bool true), (27, .int .i64 x17.vcpu), (29, .int .i64 x9.vcpu)] ([((j : Nat) : Int) > (0 : Int)] ++ ([Fit .i64 (((j : Nat)) - 1)] ++ ([(some ⟨b7, o7, none⟩ : Option Addr) = some ⟨b7, o7, none⟩, (((j : Nat)) - 1) = ((j - 1 : Nat) : Int), j - 1 < na] ++ (cellsP w b7 (o7 + (j - 1) * 3) [.int .i64 x17.vcpu])))) (by kernel_rfl) rfl (alA (al1 q16) (alA (al1 (fit64 (by omega) (by omega))) (alA (al2 rfl (al2 (by omega) (al1 (by omega)))) (rd_pre (hrs.get hx17) _ rfl)))) ?_
     refine cm 3 [(16, .yes)] [1, 7, 8, 9] [(32, .bool true)] ([(x17.vcpu : Int) ≥ (x9.vcpu : Int)]) (by kernel_rfl) rfl (al1 q18) ?_
     refine calm_nil' ?_
     refine ds_ (t_ (sq_ (qa0 [] [] [(2, .bool false)] (ds_ (rt ([]) (.bool false) ?_)))))
     exact fun w' hw => ⟨by rw [al_bad_rise hx9 hx17 (by omega) (by omega)], hw.below⟩
    ·
     refine at_calm rfl (by kernel_rfl) (by kernel_rfl) ?_
     refine cm 1 [(0, .go (owns 0 0 3))] [1, 3, 4, 7, 8, 9] [(14, .agg #[.int .i64 x9.vcpu, .int .i64 x9.port, .int .i64 x9.every])] ([]) (by kernel_rfl) rfl al0 ?_
     refine cK (.bool true) (fun args w => Tryz.call44 args w) (fun w hw => by have := ralm_t x9 w; rw [q11] at this; exact this) ?_
     refine cm 14 [(5, .yes), (8, .go (owns 1 2 1)), (10, .fit), (11, .at b7 o7 (j - 1)), (13, .go (outs b7 (o7 + (j - 1) * 3) [.int .i64 x17.vcpu])), (15, .go (owns 0 0 1))] [1, 7, 8, 9] [(17, .bool false), (20, .bool true), (27, .int .i64 x17.vcpu), (29, .int .i64 x9.vcpu)] ([((j : Nat) : Int) > (0 : Int)] ++ ([Fit .i64 (((j : Nat)) - 1)] ++ ([(some ⟨b7, o7, none⟩ : Option Addr) = some ⟨b7, o7, none⟩, (((j : Nat)) - 1) = ((j - 1 : Nat) : Int), j - 1 < na] ++ (cellsP w b7 (o7 + (j - 1) * 3) [.int .i64 x17.vcpu])))) (by kernel_rfl) rfl (alA (al1 q16) (alA (al1 (fit64 (by omega) (by omega))) (alA (al2 rfl (al2 (by omega) (al1 (by omega)))) (rd_pre (hrs.get hx17) _ rfl)))) ?_
     refine cm 3 [(16, .no)] [1, 7, 8, 9] [(32, .bool false)] ([¬ ((x17.vcpu : Int) ≥ (x9.vcpu : Int))]) (by kernel_rfl) rfl (al1 q18) ?_
     refine calm_nil' ?_
     refine ds_ (f_ (at_skip (done_block (ds_ (qa [(0, .fit)] [1, 7, 8] [(9, .int .i64 ((j + 1 : Nat)))] ([Fit .i64 ((j + 1 : Nat))]) (al1 (fit64 (by omega) (by omega))) (Done.drop (L' := [bx (γ1 0) (#[.int .i64 now, .slice p n cap, .slice (some ⟨b7, o7, none⟩) na ca]) 27]) ?_ (List.Sublist.cons _ (List.Sublist.cons_cons _ (List.Sublist.refl _)))))))))
     exact dr [1, 7, 8, 9] (j + 1) ⟨by omega, ris_take_onT hR hx9 (.inr ⟨x17, hx17, by omega⟩), all_onT hA hx9 q11⟩
   ·
    refine at_calm rfl (by kernel_rfl) (by kernel_rfl) ?_
    refine cm 1 [(0, .go (owns 0 0 3))] [1, 3, 4, 7, 8, 9] [(14, .agg #[.int .i64 x9.vcpu, .int .i64 x9.port, .int .i64 x9.every])] ([]) (by kernel_rfl) rfl al0 ?_
    refine cK (.bool true) (fun args w => Tryz.call44 args w) (fun w hw => by have := ralm_t x9 w; rw [q11] at this; exact this) ?_
    refine cm 14 [(5, .no)] [1, 7, 8, 9] [(17, .bool false), (20, .bool false), (27, undef), (29, undef)] ([¬ (((j : Nat) : Int) > (0 : Int))]) (by kernel_rfl) rfl (al1 q16) ?_
    refine cm 3 [] [1, 7, 8, 9] [(32, .bool false)] ([]) (by kernel_rfl) rfl al0 ?_
    refine calm_nil' ?_
    refine ds_ (f_ (at_skip (done_block (ds_ (qa [(0, .fit)] [1, 7, 8] [(9, .int .i64 ((j + 1 : Nat)))] ([Fit .i64 ((j + 1 : Nat))]) (al1 (fit64 (by omega) (by omega))) (Done.drop (L' := [bx (γ1 0) (#[.int .i64 now, .slice p n cap, .slice (some ⟨b7, o7, none⟩) na ca]) 27]) ?_ (List.Sublist.cons _ (List.Sublist.cons_cons _ (List.Sublist.refl _)))))))))
    exact dr [1, 7, 8, 9] (j + 1) ⟨by omega, ris_take_onT hR hx9 (.inl (by omega)), all_onT hA hx9 q11⟩
 ·
  refine qa [(0, .no)] [1, 7, 8, 9] [(10, .bool false)] ([¬ (((j : Nat) : Int) < ((na : Nat) : Int))]) (al1 q4) (ds_ (sq_ (f_ (at_leave _ rfl (ds_ (sq_ (sq_ ?_)))))))
  rw [List.take_of_length_le (by omega)] at hR hA
  refine ao_ (qo0 2 [(1, .go (owns 0 0 2))] [1] [(35, .agg #[.int .i64 now, .slice p n cap])] ?_)
  rcases q33 : wheelB now ts with _ | _
  ·
   refine cD (.bool false) (fun args w => Tryz.call45 args w) (fun w hw => by have := rright_t now p n cap ts w (hts.kept hw.below) hn (by omega); rw [q33] at this; exact this) (qo0 1 [] [1] [(37, .bool true)] (on_ (ds_ (t_ (sq_ (qa0 [] [] [(2, .bool false)] (ds_ (rt ([]) (.bool false) ?_))))))))
   exact fun w' hw => ⟨by rw [al_bad_wheel q33], hw.below⟩
  ·
   refine cD (.bool true) (fun args w => Tryz.call45 args w) (fun w hw => by have := rright_t now p n cap ts w (hts.kept hw.below) hn (by omega); rw [q33] at this; exact this) (qo0 1 [] [1] [(37, .bool false)] (on_ (ds_ (f_ (at_skip (ds_ (sq_ (sq_ ?_))))))))
   have hn0 := (wheel_iff.1 q33).n0
   refine qa0 [] [1] [(5, .int .i64 1)] (ds_ (at_block (at_loop (α := Int) [1, 5] (fun v => [(1, .pointer (some ⟨γ1 0, 0, none⟩)), (5, .int .i64 v)]) (fun v => [bx (γ1 0) (#[.int .i64 now, .slice p n cap, .slice pa na ca]) 27]) (fun v => 1 ≤ v ∧ v ≤ 17 ∧ ∀ u : Int, 1 ≤ u → u < v → (getK Tim.id ts (u - 1)).isSome = (getK Alm.vcpu rs u).isSome) (fun v => (17 - v).toNat) 1 (by kernel_rfl) rfl ⟨by omega, by omega, fun u h1 h2 => by omega⟩ ?_)))
   rintro v
   rintro ⟨hv1, hv2, hI⟩
   refine sq_ (sq_ ?_)
   by_cases q39 : (v : Int) ≤ (16 : Int)
   ·
    refine qa [(1, .yes)] [1, 5] [(39, .bool true)] ([(v : Int) ≤ (16 : Int)]) (al1 q39) (ds_ (t_ (at_skip (ds_ (sq_ (at_block (sq_ ?_)))))))
    refine at_calm rfl (by kernel_rfl) (by kernel_rfl) ?_
    refine cm 4 [(1, .go (owns 0 0 2)), (3, .fit)] [1, 5] [(43, .agg #[.int .i64 now, .slice p n cap]), (45, .int .i64 (v - 1))] ([Fit .i64 (v - 1)]) (by kernel_rfl) rfl (al1 (fit64 (by omega) (by omega))) ?_
    rcases hg42 : getK Tim.id ts (v - 1) with _ | y42
    ·
     refine cK (.int .i64 0) (fun args w => Tryz.call46 args w) (fun w hw => by have := rat_t now p n cap ts (v - 1) w (hts.kept hw.below) hn (by omega); rw [atR_none hg42] at this; exact this) ?_
     refine cm 3 [(6, .go (owns 0 0 3))] [1, 5] [(47, .bool false), (48, .agg #[.int .i64 now, .slice p n cap, .slice pa na ca]), (49, .int .i64 v)] ([]) (by kernel_rfl) rfl al0 ?_
     rcases ha44 : getK Alm.vcpu rs v with _ | z44
     ·
      refine cK (.int .i64 (-1)) (fun args w => Tryz.call47 args w) (fun w hw => by have := rfind_t now p n cap ts pa na ca rs v w (hts.kept hw.below) hn (by omega) (hrs.kept hw.below) hna (by omega); rw [fd_none ha44] at this; exact this) ?_
      refine cm 2 [(10, .eqs false)] [1, 5] [(52, .bool false)] ([EqRun Tryz.prog .neq 4 (.tmp 47) (.tmp 51) (.bool false) (.bool false) false]) (by kernel_rfl) rfl (al1 (bool_ne false false)) ?_
      refine calm_nil' ?_
      refine ds_ (f_ (at_skip (done_block (ds_ (qa [(1, .fit)] [1] [(5, .int .i64 (v + 1))] ([Fit .i64 (v + 1)]) (al1 (fit64 (by omega) (by omega))) ?_)))))
      exact dr [1, 5] (v + 1) ⟨by omega, by omega, links_on hI (by rw [hg42, ha44]; rfl)⟩
     ·
      obtain ⟨i47, hi47, hx47⟩ := fd_some hR ha44
      have hl47 := (List.getElem?_eq_some_iff.1 hx47).1
      refine cK (.int .i64 ((i47 : Nat))) (fun args w => Tryz.call47 args w) (fun w hw => by have := rfind_t now p n cap ts pa na ca rs v w (hts.kept hw.below) hn (by omega) (hrs.kept hw.below) hna (by omega); rw [hi47] at this; exact this) ?_
      refine cm 2 [(9, .yes), (10, .eqs true)] [1, 5] [(52, .bool true)] ([((i47 : Nat) : Int) ≥ (0 : Int)] ++ ([EqRun Tryz.prog .neq 4 (.tmp 47) (.tmp 51) (.bool false) (.bool true) true])) (by kernel_rfl) rfl (alA (al1 ((by omega))) (al1 (bool_ne false true))) ?_
      refine calm_nil' ?_
      refine ds_ (t_ (sq_ (qa0 [] [] [(2, .bool false)] (ds_ (rt ([]) (.bool false) ?_)))))
      exact fun w' hw => ⟨by rw [al_bad_link (v := v) (by omega) (by omega) (by rw [hg42, ha44]; simp)], hw.below⟩
    ·
     have hymy42 := (wheel_iff.1 q33).tm y42 (getK_mem hg42).1
     refine cK (.int .i64 y42.due) (fun args w => Tryz.call46 args w) (fun w hw => by have := rat_t now p n cap ts (v - 1) w (hts.kept hw.below) hn (by omega); rw [atR_some hg42] at this; exact this) ?_
     refine cm 3 [(5, .yes), (6, .go (owns 0 0 3))] [1, 5] [(47, .bool true), (48, .agg #[.int .i64 now, .slice p n cap, .slice pa na ca]), (49, .int .i64 v)] ([(y42.due : Int) > (0 : Int)]) (by kernel_rfl) rfl (al1 ((by omega))) ?_
     rcases ha51 : getK Alm.vcpu rs v with _ | z51
     ·
      refine cK (.int .i64 (-1)) (fun args w => Tryz.call47 args w) (fun w hw => by have := rfind_t now p n cap ts pa na ca rs v w (hts.kept hw.below) hn (by omega) (hrs.kept hw.below) hna (by omega); rw [fd_none ha51] at this; exact this) ?_
      refine cm 2 [(10, .eqs true)] [1, 5] [(52, .bool true)] ([EqRun Tryz.prog .neq 4 (.tmp 47) (.tmp 51) (.bool true) (.bool false) true]) (by kernel_rfl) rfl (al1 (bool_ne true false)) ?_
      refine calm_nil' ?_
      refine ds_ (t_ (sq_ (qa0 [] [] [(2, .bool false)] (ds_ (rt ([]) (.bool false) ?_)))))
      exact fun w' hw => ⟨by rw [al_bad_link (v := v) (by omega) (by omega) (by rw [hg42, ha51]; simp)], hw.below⟩
     ·
      obtain ⟨i54, hi54, hx54⟩ := fd_some hR ha51
      have hl54 := (List.getElem?_eq_some_iff.1 hx54).1
      refine cK (.int .i64 ((i54 : Nat))) (fun args w => Tryz.call47 args w) (fun w hw => by have := rfind_t now p n cap ts pa na ca rs v w (hts.kept hw.below) hn (by omega) (hrs.kept hw.below) hna (by omega); rw [hi54] at this; exact this) ?_
      refine cm 2 [(9, .yes), (10, .eqs false)] [1, 5] [(52, .bool false)] ([((i54 : Nat) : Int) ≥ (0 : Int)] ++ ([EqRun Tryz.prog .neq 4 (.tmp 47) (.tmp 51) (.bool true) (.bool true) false])) (by kernel_rfl) rfl (alA (al1 ((by omega))) (al1 (bool_ne true true))) ?_
      refine calm_nil' ?_
      refine ds_ (f_ (at_skip (done_block (ds_ (qa [(1, .fit)] [1] [(5, .int .i64 (v + 1))] ([Fit .i64 (v + 1)]) (al1 (fit64 (by omega) (by omega))) ?_)))))
      exact dr [1, 5] (v + 1) ⟨by omega, by omega, links_on hI (by rw [hg42, ha51]; rfl)⟩
   ·
    refine qa [(1, .no)] [1, 5] [(39, .bool false)] ([¬ ((v : Int) ≤ (16 : Int))]) (al1 q39) (ds_ (f_ (at_leave _ rfl (ds_ (sq_ (qa0 [] [] [(2, .bool true)] (ds_ (rt ([]) (.bool true) ?_))))))))
    exact fun w' hw => ⟨by rw [al_good' hR hA q33 hI (by omega)], hw.below⟩

set_option maxRecDepth 100000 in
theorem rsame8_t (now : Int) (p : Option Addr) (n cap : Nat) (ts : List Tim) (pa : Option Addr) (na ca : Nat) (rs : List Alm) (now2 : Int) (p2 : Option Addr) (n2 cap2 : Nat) (ts2 : List Tim) (pa2 : Option Addr) (na2 ca2 : Nat) (rs2 : List Alm) (w : World)
 (hts : Sv w p ts) (hn : n = ts.length) (hb : n ≤ 1000)
 (hrs : Sv w pa rs) (hna : na = rs.length) (hba : na ≤ 1000)
 (hts2 : Sv w p2 ts2) (hn2 : n2 = ts2.length) (hb2 : n2 ≤ 1000)
 (hrs2 : Sv w pa2 rs2) (hna2 : na2 = rs2.length) (hba2 : na2 ≤ 1000)
 : Calls Tryz.prog 9 #[.agg #[.int .i64 now, .slice p n cap, .slice pa na ca], .agg #[.int .i64 now2, .slice p2 n2 cap2, .slice pa2 na2 ca2]] w fun e w' => e = .returned (.bool (sameA now ts rs now2 ts2 rs2)) ∧ Below w.heap.size w w' := by
 refine enter (Hs.start w) Tryz.func9 rfl Tryz.ntmps9 rfl (sq_ (ma0 [] [] (fun γ1 => [(2, .pointer (some ⟨γ1 0, 0, none⟩)), (3, .pointer (some ⟨γ1 1, 0, none⟩))]) (fun γ1 L => bx (γ1 1) (#[.int .i64 now2, .slice p2 n2 cap2, .slice pa2 na2 ca2]) 27 :: bx (γ1 0) (#[.int .i64 now, .slice p n cap, .slice pa na ca]) 27 :: L) (fun γ1 => ds_ (sq_ (sq_ (ao_ (qo0 4 [(1, .go (owns 1 0 2)), (3, .go (owns 0 0 2))] [2, 3] [(7, .agg #[.int .i64 now, .slice p n cap]), (9, .agg #[.int .i64 now2, .slice p2 n2 cap2])] (cD (.bool (sameW now ts now2 ts2)) (fun args w => Tryz.call24 args w) (fun w hw => by have := rsame_t now p n cap ts now2 p2 n2 cap2 ts2 w (hts.kept hw.below) hn (by omega) (hts2.kept hw.below) hn2 (by omega); exact this) ?_))))))))
 rcases q4 : sameW now ts now2 ts2 with _ | _
 ·
  refine qo0 10 [] [2, 3] [(20, .bool true)] (on_ (ds_ (t_ (sq_ (qa0 [] [] [(4, .bool false)] (ds_ (rt ([]) (.bool false) ?_)))))))
  exact fun w' hw => ⟨by rw [sameA_no q4], hw.below⟩
 ·
  by_cases q8 : ((na : Nat) : Int) ≠ ((na2 : Nat) : Int)
  ·
   refine qo 10 [(8, .go (owns 1 2 1)), (11, .go (owns 0 2 1)), (13, .yes)] [2, 3] [(20, .bool true)] ([((na : Nat) : Int) ≠ ((na2 : Nat) : Int)]) (al1 q8) (on_ (ds_ (t_ (sq_ (qa0 [] [] [(4, .bool false)] (ds_ (rt ([]) (.bool false) ?_)))))))
   exact fun w' hw => ⟨by rw [sameA_yes q4, dsame_len (l := rs) (l2 := rs2) (by omega)], hw.below⟩
  ·
   refine qo 10 [(8, .go (owns 1 2 1)), (11, .go (owns 0 2 1)), (13, .no)] [2, 3] [(20, .bool false)] ([¬ (((na : Nat) : Int) ≠ ((na2 : Nat) : Int))]) (al1 q8) (on_ (ds_ (f_ (at_skip (ds_ (sq_ (sq_ (qa0 [(1, .go (owns 1 2 1))] [2, 3] [(23, .int .i64 ((na : Nat))), (24, .int .i64 0)] (ds_ (at_block (at_loop (α := Nat) [2, 3, 23, 24] (fun j => [(2, .pointer (some ⟨γ1 0, 0, none⟩)), (3, .pointer (some ⟨γ1 1, 0, none⟩)), (23, .int .i64 ((na : Nat))), (24, .int .i64 ((j : Nat)))]) (fun j => [bx (γ1 1) (#[.int .i64 now2, .slice p2 n2 cap2, .slice pa2 na2 ca2]) 27, bx (γ1 0) (#[.int .i64 now, .slice p n cap, .slice pa na ca]) 27]) (fun j => j ≤ na ∧ rs.take j = rs2.take j) (fun j => na - j) 0 (by kernel_rfl) rfl ⟨Nat.zero_le _, rfl⟩ ?_)))))))))))
   rintro j
   rintro ⟨hj, hIj⟩
   refine sq_ ?_
   by_cases q14 : ((j : Nat) : Int) < ((na : Nat) : Int)
   ·
    refine qa [(0, .yes)] [2, 3, 23, 24] [(25, .bool true)] ([((j : Nat) : Int) < ((na : Nat) : Int)]) (al1 q14) (ds_ (sq_ (t_ (at_skip (ds_ (sq_ (at_block (sq_ (qa0 [] [2, 3, 23, 24] [(5, .int .i64 ((j : Nat)))] (ds_ (sq_ ?_)))))))))))
    obtain ⟨b18, o18, rfl⟩ := hrs.pos (i := j) (by omega)
    obtain ⟨x20, hx20⟩ := get_some (l := rs) (m := j) (by omega)
    obtain ⟨b22, o22, rfl⟩ := hrs2.pos (i := j) (by omega)
    obtain ⟨x24, hx24⟩ := get_some (l := rs2) (m := j) (by omega)
    by_cases q26 : x20 = x24
    ·
     refine cq [(1, .go (owns 1 2 1)), (3, .at b18 o18 j), (4, .go (outs b18 (o18 + j * 3) [.int .i64 x20.vcpu, .int .i64 x20.port, .int .i64 x20.every])), (6, .go (owns 0 2 1)), (8, .at b22 o22 j), (9, .go (outs b22 (o22 + j * 3) [.int .i64 x24.vcpu, .int .i64 x24.port, .int .i64 x24.every])), (10, .eqs false)] [2, 3, 23, 24] [(37, .bool false)] ([(some ⟨b18, o18, none⟩ : Option Addr) = some ⟨b18, o18, none⟩, ((j : Nat)) = ((j : Nat) : Int), j < na] ++ (cellsP w b18 (o18 + j * 3) [.int .i64 x20.vcpu, .int .i64 x20.port, .int .i64 x20.every] ++ ([(some ⟨b22, o22, none⟩ : Option Addr) = some ⟨b22, o22, none⟩, ((j : Nat)) = ((j : Nat) : Int), j < na2] ++ (cellsP w b22 (o22 + j * 3) [.int .i64 x24.vcpu, .int .i64 x24.port, .int .i64 x24.every] ++ ([EqRun Tryz.prog .neq 32 (.tmp 31) (.tmp 36) (.agg #[.int .i64 x20.vcpu, .int .i64 x20.port, .int .i64 x20.every]) (.agg #[.int .i64 x24.vcpu, .int .i64 x24.port, .int .i64 x24.every]) false]))))) rfl (by kernel_rfl) (by kernel_rfl) (by kernel_rfl) (alA (al2 rfl (al2 rfl (al1 (by omega)))) (alA (rd_pre (hrs.get hx20) _ rfl) (alA (al2 rfl (al2 rfl (al1 (by omega)))) (alA (rd_pre (hrs2.get hx24) _ rfl) (al1 (alm_ne_t (a := x20) (b := x24) q26)))))) (ds_ (f_ (at_skip (done_block (ds_ (qa [(0, .fit)] [2, 3, 23] [(24, .int .i64 ((j + 1 : Nat)))] ([Fit .i64 ((j + 1 : Nat))]) (al1 (fit64 (by omega) (by omega))) ?_))))))
     exact dr [2, 3, 23, 24] (j + 1) ⟨by omega, dsame_on hIj hx20 hx24 (by first | assumption | omega)⟩
    ·
     refine cq [(1, .go (owns 1 2 1)), (3, .at b18 o18 j), (4, .go (outs b18 (o18 + j * 3) [.int .i64 x20.vcpu, .int .i64 x20.port, .int .i64 x20.every])), (6, .go (owns 0 2 1)), (8, .at b22 o22 j), (9, .go (outs b22 (o22 + j * 3) [.int .i64 x24.vcpu, .int .i64 x24.port, .int .i64 x24.every])), (10, .eqs true)] [2, 3, 23, 24] [(37, .bool true)] ([(some ⟨b18, o18, none⟩ : Option Addr) = some ⟨b18, o18, none⟩, ((j : Nat)) = ((j : Nat) : Int), j < na] ++ (cellsP w b18 (o18 + j * 3) [.int .i64 x20.vcpu, .int .i64 x20.port, .int .i64 x20.every] ++ ([(some ⟨b22, o22, none⟩ : Option Addr) = some ⟨b22, o22, none⟩, ((j : Nat)) = ((j : Nat) : Int), j < na2] ++ (cellsP w b22 (o22 + j * 3) [.int .i64 x24.vcpu, .int .i64 x24.port, .int .i64 x24.every] ++ ([EqRun Tryz.prog .neq 32 (.tmp 31) (.tmp 36) (.agg #[.int .i64 x20.vcpu, .int .i64 x20.port, .int .i64 x20.every]) (.agg #[.int .i64 x24.vcpu, .int .i64 x24.port, .int .i64 x24.every]) true]))))) rfl (by kernel_rfl) (by kernel_rfl) (by kernel_rfl) (alA (al2 rfl (al2 rfl (al1 (by omega)))) (alA (rd_pre (hrs.get hx20) _ rfl) (alA (al2 rfl (al2 rfl (al1 (by omega)))) (alA (rd_pre (hrs2.get hx24) _ rfl) (al1 (alm_ne_f (a := x20) (b := x24) q26)))))) (ds_ (t_ (sq_ (qa0 [] [] [(4, .bool false)] (ds_ (rt ([]) (.bool false) ?_))))))
     exact fun w' hw => ⟨by rw [sameA_yes q4, dsame_no hx20 hx24 (by assumption)], hw.below⟩
   ·
    refine qa [(0, .no)] [2, 3, 23, 24] [(25, .bool false)] ([¬ (((j : Nat) : Int) < ((na : Nat) : Int))]) (al1 q14) (ds_ (sq_ (f_ (at_leave _ rfl (ds_ (sq_ (qa0 [] [] [(4, .bool true)] (ds_ (rt ([]) (.bool true) ?_)))))))))
    exact fun w' hw => ⟨by rw [sameA_yes q4, dsame_yes hIj (by omega) (by omega)], hw.below⟩

set_option maxRecDepth 100000 in
theorem rsleeps8_t (now : Int) (p : Option Addr) (n cap : Nat) (ts : List Tim) (pa : Option Addr) (na ca : Nat) (rs : List Alm) (k : Int) (w : World)
 (hts : Sv w p ts) (hn : n = ts.length) (hb : n ≤ 1000)
 (hrs : Sv w pa rs) (hna : na = rs.length) (hba : na ≤ 1000)
 (hk1 : -1000 ≤ k) (hk2 : k ≤ 1000)
 : Calls Tryz.prog 53 #[.agg #[.int .i64 now, .slice p n cap, .slice pa na ca], .int .i64 k] w fun e w' => e = .returned (.int .i64 (rslV ts k)) ∧ Below w.heap.size w w' := by
 refine enter (Hs.start w) Tryz.func53 rfl Tryz.ntmps53 rfl (sq_ (ma0 [] [1] (fun γ1 => [(2, .pointer (some ⟨γ1 0, 0, none⟩))]) (fun γ1 L => bx (γ1 0) (#[.int .i64 now, .slice p n cap, .slice pa na ca]) 27 :: L) (fun γ1 => ds_ (sq_ (sq_ (ao_ (qo0 1 [] [1, 2] [(5, .int .i64 k)] ?_)))))))
 rcases q3 : vcB k with _ | _
 ·
  refine cD (.bool false) (fun args w => Tryz.call50 args w) (fun w hw => by have := rvc_t k w; rw [q3] at this; exact this) (qo0 1 [] [1, 2] [(7, .bool true)] (on_ (ds_ (t_ (sq_ (qa0 [] [] [(4, .int .i64 0)] (ds_ (rt ([]) (.int .i64 0) ?_))))))))
  exact fun w' hw => ⟨by rw [rsl_no q3], hw.below⟩
 ·
  refine cD (.bool true) (fun args w => Tryz.call50 args w) (fun w hw => by have := rvc_t k w; rw [q3] at this; exact this) (qo0 1 [] [1, 2] [(7, .bool false)] (on_ (ds_ (f_ (at_skip (ds_ (sq_ (ao_ (qo 5 [(1, .go (owns 0 0 2)), (3, .fit), (4, .fit)] [] [(9, .agg #[.int .i64 now, .slice p n cap]), (12, .int .i64 ((16 + k) - 1))] ([Fit .i64 (16 + k)] ++ ([Fit .i64 ((16 + k) - 1)])) (alA (al1 (fit64 (by omega) (by omega))) (al1 (fit64 (by omega) (by omega)))) (cD (.int .i64 (atR ts ((16 + k) - 1))) (fun args w => Tryz.call46 args w) (fun w hw => rat_t now p n cap ts ((16 + k) - 1) w (hts.kept hw.below) hn (by omega)) (qo0 1 [] [] [(4, .int .i64 (atR ts ((16 + k) - 1)))] (on_ (ds_ (rt ([]) (.int .i64 (atR ts ((16 + k) - 1))) ?_))))))))))))))
  exact fun w' hw => ⟨by rw [rsl_ok q3, show 15 + k = 16 + k - 1 from by omega], hw.below⟩
end Go.Proofs.YtdbamgbgnpadjaaGreat

/-! Timers: the document's wheel with one timer more. -/
namespace Go.Proofs.YtdbamgbgnpadjaaGreat
open Go Go.RowKit

set_option maxRecDepth 100000 in
theorem with_t (now : Int) (p : Option Addr) (n cap : Nat) (ts : List Tim) (k at_ : Int) (w : World)
 (hts : Sv w p ts) (hn : n = ts.length) (hb : n ≤ 1000)
 : Calls Tryz.prog 52 #[.agg #[.int .i64 now, .slice p n cap], .int .i64 k, .int .i64 at_] w fun e w' => ∃ q c Y, e = .returned (.agg #[.int .i64 now, .slice q (wiL ts k at_ 32).length c]) ∧ SlO 42 Y q (wiL ts k at_ 32).length c (wiL ts k at_ 32) ∧ Below w.heap.size w w' ∧ Hs w Y w' := by
 refine enter (Hs.start w) Tryz.func52 rfl Tryz.ntmps52 rfl (sq_ (ma0 [] [1, 2] (fun γ1 => [(3, .pointer (some ⟨γ1 0, 0, none⟩)), (6, .pointer (some ⟨γ1 1, 0, none⟩))]) (fun γ1 L => bx (γ1 1) (#[.int .i64 0, .slice none 0 0]) 24 :: bx (γ1 0) (#[.int .i64 now, .slice p n cap]) 24 :: L) (fun γ1 => ds_ (sq_ (ma0 [(1, .go (owns 1 0 1)), (4, .go (owns 0 0 2))] [1, 2, 3, 6] (fun γ2 => [(7, .pointer (some ⟨γ2 0, 0, none⟩))]) (fun γ2 L => bx (γ2 0) (#[.int .i64 now, .slice none 0 0]) 24 :: L) (fun γ2 => ds_ (sq_ (sq_ (qa0 [] [1, 2, 3, 6, 7] [(8, .int .i64 0)] (ds_ (at_block (at_loop (α := Nat × List Ob × Option Addr × Nat × Nat) [1, 2, 3, 6, 7, 8] (fun ⟨j, Yo, po, nu, co⟩ => [(1, .int .i64 k), (2, .int .i64 at_), (3, .pointer (some ⟨γ1 0, 0, none⟩)), (6, .pointer (some ⟨γ1 1, 0, none⟩)), (7, .pointer (some ⟨γ2 0, 0, none⟩)), (8, .int .i64 ((j : Nat)))]) (fun ⟨j, Yo, po, nu, co⟩ => bx (γ2 0) (#[.int .i64 now, .slice po nu co]) 24 :: bx (γ1 1) (#[.int .i64 0, .slice none 0 0]) 24 :: bx (γ1 0) (#[.int .i64 now, .slice p n cap]) 24 :: (Yo ++ [])) (fun ⟨j, Yo, po, nu, co⟩ => j ≤ 32 ∧ nu ≤ j ∧ SlO 42 Yo po nu co (wiL ts k at_ j)) (fun ⟨j, Yo, po, nu, co⟩ => 32 - j) (0, [], none, 0, 0) (by kernel_rfl) rfl ⟨Nat.zero_le _, Nat.le_refl _, SlO.nil⟩ ?_))))))))))))
 rintro ⟨j, Yo, po, nu, co⟩
 rintro ⟨hj, hnu, hO⟩
 refine sq_ (sq_ ?_)
 by_cases q5 : ((j : Nat) : Int) < (32 : Int)
 ·
  refine qa [(1, .yes)] [1, 2, 3, 6, 7, 8] [(14, .bool true)] ([((j : Nat) : Int) < (32 : Int)]) (al1 q5) (ds_ (t_ (at_skip (ds_ (sq_ (at_block (sq_ (ao_ (qo0 2 [(0, .go (owns 2 0 2))] [1, 2, 3, 6, 7, 8] [(17, .agg #[.int .i64 now, .slice p n cap]), (18, .int .i64 ((j : Nat)))] (cD (.int .i64 (atR ts ((j : Nat)))) (fun args w => Tryz.call46 args w) (fun w hw => rat_t now p n cap ts ((j : Nat)) w (hts.kept hw.below) hn (by omega)) (qo0 1 [] [1, 2, 3, 6, 7, 8] [(9, .int .i64 (atR ts ((j : Nat))))] (on_ (ds_ (sq_ (sq_ ?_)))))))))))))))
  by_cases q10 : ((j : Nat) : Int) = (k : Int)
  ·
   refine qa [(2, .yes)] [1, 2, 3, 6, 7, 8, 9] [(22, .bool true)] ([((j : Nat) : Int) = (k : Int)]) (al1 q10) (ds_ (t_ (qa0 [] [1, 2, 3, 6, 7, 8] [(9, .int .i64 at_)] (ds_ (sq_ ?_)))))
   by_cases q14 : (at_ : Int) > (0 : Int)
   ·
    refine qa [(1, .yes)] [1, 2, 3, 6, 7, 8, 9] [(25, .bool true)] ([(at_ : Int) > (0 : Int)]) (al1 q14) (ds_ (t_ (ao_ (mo0 6 [(1, .go (owns 0 1 1))] [1, 2, 3, 6, 7, 8] (fun γ16 => [(27, .slice po nu co), (31, .slice (some ⟨γ16 0, 0, none⟩) 1 1)]) (fun γ16 L => bx (γ16 0) (#[.int .i64 ((j : Nat)), .int .i64 at_]) 42 :: L) (fun γ16 => ops_append (α := Tim) [bx (γ16 0) (#[.int .i64 ((j : Nat)), .int .i64 at_]) 42, bx (γ2 0) (#[.int .i64 now, .slice po nu co]) 24, bx (γ1 1) (#[.int .i64 0, .slice none 0 0]) 24, bx (γ1 0) (#[.int .i64 now, .slice p n cap]) 24] Yo ([]) (.refl _) rfl (by kernel_rfl) (by kernel_rfl) (p := po) (n := nu) (cap := co) (m := 1) (yv := .slice (some ⟨γ16 0, 0, none⟩) 1 1) (by kernel_rfl) (by kernel_rfl) (T := 42) (by_ := 16) (by kernel_rfl) ((wiL ts k at_ j)) ([⟨(j : Nat), at_⟩]) hO (fun w hw => src_svn Tryz.underlying22 (sv_row (hw.row 0 rfl) (by rfl)) (by rfl)) (by rfl) (by have hmx : maxLen = 9223372036854775807 := rfl; omega) (by have hmx : maxLen = 9223372036854775807 := rfl; omega) (fun Y17 p17 cap17 hO17 => mo0 2 [(8, .go (owns 1 1 1))] [1, 2, 3, 6, 7, 8] (fun _ => []) (fun _ L => (L.set 1 (bx (γ2 0) (#[.int .i64 now, .slice p17 (nu + 1) cap17]) 24))) (fun _ => on_ (done_block (ds_ (qa [(1, .fit)] [1, 2, 3, 6, 7] [(8, .int .i64 ((j + 1 : Nat)))] ([Fit .i64 ((j + 1 : Nat))]) (al1 (fit64 (by omega) (by omega))) (Done.pick [[bx (γ16 0) (#[.int .i64 ((j : Nat)), .int .i64 at_]) 42], [bx (γ2 0) (#[.int .i64 now, .slice p17 (nu + 1) cap17]) 24], [bx (γ1 1) (#[.int .i64 0, .slice none 0 0]) 24], [bx (γ1 0) (#[.int .i64 now, .slice p n cap]) 24], Y17] [1, 2, 3, 4] [0] (bx (γ2 0) (#[.int .i64 now, .slice p17 (nu + 1) cap17]) 24 :: bx (γ1 1) (#[.int .i64 0, .slice none 0 0]) 24 :: bx (γ1 0) (#[.int .i64 now, .slice p n cap]) 24 :: (Y17 ++ [])) (by kernel_rfl) rfl rfl ?_)))))))))))
    exact dr [1, 2, 3, 6, 7, 8] (j + 1, Y17, p17, (nu + 1), cap17) ⟨by omega, by omega, by rw [wi_on, wi_own q10 q14]; exact hO17⟩
   ·
    refine qa [(1, .no)] [1, 2, 3, 6, 7, 8, 9] [(25, .bool false)] ([¬ ((at_ : Int) > (0 : Int))]) (al1 q14) (ds_ (f_ (at_skip (done_block (ds_ (qa [(1, .fit)] [1, 2, 3, 6, 7] [(8, .int .i64 ((j + 1 : Nat)))] ([Fit .i64 ((j + 1 : Nat))]) (al1 (fit64 (by omega) (by omega))) ?_))))))
    exact dr [1, 2, 3, 6, 7, 8] (j + 1, Yo, po, nu, co) ⟨by omega, by omega, by rw [wi_on, wi_out q10 q14, List.append_nil]; exact hO⟩
  ·
   refine qa [(2, .no)] [1, 2, 3, 6, 7, 8, 9] [(22, .bool false)] ([¬ (((j : Nat) : Int) = (k : Int))]) (al1 q10) (ds_ (f_ (at_skip (ds_ (sq_ ?_)))))
   by_cases q24 : (atR ts ((j : Nat)) : Int) > (0 : Int)
   ·
    refine qa [(1, .yes)] [1, 2, 3, 6, 7, 8, 9] [(25, .bool true)] ([(atR ts ((j : Nat)) : Int) > (0 : Int)]) (al1 q24) (ds_ (t_ (ao_ (mo0 6 [(1, .go (owns 0 1 1))] [1, 2, 3, 6, 7, 8] (fun γ26 => [(27, .slice po nu co), (31, .slice (some ⟨γ26 0, 0, none⟩) 1 1)]) (fun γ26 L => bx (γ26 0) (#[.int .i64 ((j : Nat)), .int .i64 (atR ts ((j : Nat)))]) 42 :: L) (fun γ26 => ops_append (α := Tim) [bx (γ26 0) (#[.int .i64 ((j : Nat)), .int .i64 (atR ts ((j : Nat)))]) 42, bx (γ2 0) (#[.int .i64 now, .slice po nu co]) 24, bx (γ1 1) (#[.int .i64 0, .slice none 0 0]) 24, bx (γ1 0) (#[.int .i64 now, .slice p n cap]) 24] Yo ([]) (.refl _) rfl (by kernel_rfl) (by kernel_rfl) (p := po) (n := nu) (cap := co) (m := 1) (yv := .slice (some ⟨γ26 0, 0, none⟩) 1 1) (by kernel_rfl) (by kernel_rfl) (T := 42) (by_ := 16) (by kernel_rfl) ((wiL ts k at_ j)) ([⟨(j : Nat), atR ts ((j : Nat))⟩]) hO (fun w hw => src_svn Tryz.underlying22 (sv_row (hw.row 0 rfl) (by rfl)) (by rfl)) (by rfl) (by have hmx : maxLen = 9223372036854775807 := rfl; omega) (by have hmx : maxLen = 9223372036854775807 := rfl; omega) (fun Y27 p27 cap27 hO27 => mo0 2 [(8, .go (owns 1 1 1))] [1, 2, 3, 6, 7, 8] (fun _ => []) (fun _ L => (L.set 1 (bx (γ2 0) (#[.int .i64 now, .slice p27 (nu + 1) cap27]) 24))) (fun _ => on_ (done_block (ds_ (qa [(1, .fit)] [1, 2, 3, 6, 7] [(8, .int .i64 ((j + 1 : Nat)))] ([Fit .i64 ((j + 1 : Nat))]) (al1 (fit64 (by omega) (by omega))) (Done.pick [[bx (γ26 0) (#[.int .i64 ((j : Nat)), .int .i64 (atR ts ((j : Nat)))]) 42], [bx (γ2 0) (#[.int .i64 now, .slice p27 (nu + 1) cap27]) 24], [bx (γ1 1) (#[.int .i64 0, .slice none 0 0]) 24], [bx (γ1 0) (#[.int .i64 now, .slice p n cap]) 24], Y27] [1, 2, 3, 4] [0] (bx (γ2 0) (#[.int .i64 now, .slice p27 (nu + 1) cap27]) 24 :: bx (γ1 1) (#[.int .i64 0, .slice none 0 0]) 24 :: bx (γ1 0) (#[.int .i64 now, .slice p n cap]) 24 :: (Y27 ++ [])) (by kernel_rfl) rfl rfl ?_)))))))))))
    exact dr [1, 2, 3, 6, 7, 8] (j + 1, Y27, p27, (nu + 1), cap27) ⟨by omega, by omega, by rw [wi_on, wi_row q10 q24]; exact hO27⟩
   ·
    refine qa [(1, .no)] [1, 2, 3, 6, 7, 8, 9] [(25, .bool false)] ([¬ ((atR ts ((j : Nat)) : Int) > (0 : Int))]) (al1 q24) (ds_ (f_ (at_skip (done_block (ds_ (qa [(1, .fit)] [1, 2, 3, 6, 7] [(8, .int .i64 ((j + 1 : Nat)))] ([Fit .i64 ((j + 1 : Nat))]) (al1 (fit64 (by omega) (by omega))) ?_))))))
    exact dr [1, 2, 3, 6, 7, 8] (j + 1, Yo, po, nu, co) ⟨by omega, by omega, by rw [wi_on, wi_none q10 q24, List.append_nil]; exact hO⟩
 ·
  refine qa [(1, .no)] [1, 2, 3, 6, 7, 8] [(14, .bool false)] ([¬ (((j : Nat) : Int) < (32 : Int))]) (al1 q5) (ds_ (f_ (at_leave _ rfl (ds_ (sq_ (ma0 [(0, .go (owns 0 0 2)), (1, .go (owns 1 0 2))] [6] (fun _ => []) (fun _ L => (L.set 1 (bx (γ1 1) (#[.int .i64 now, .slice po nu co]) 24))) (fun _ => ds_ (rt (owns 1 0 2) (.agg #[.int .i64 now, .slice po nu co]) ?_))))))))
  obtain rfl : j = 32 := by omega
  have e1 : nu = (wiL ts k at_ 32).length := hO.len
  have hO1 := hO
  rw [e1] at hO1
  exact fun w' hw => ⟨po, co, Yo, by rw [e1], hO1, hw.below, one_tail (Hs.pick [[bx (γ2 0) (#[.int .i64 now, .slice po nu co]) 24], [bx (γ1 1) (#[.int .i64 now, .slice po nu co]) 24], [bx (γ1 0) (#[.int .i64 now, .slice p n cap]) 24], Yo] [3] [0, 1, 2] (by kernel_rfl) hw)⟩
end Go.Proofs.YtdbamgbgnpadjaaGreat

/-! Alarms: the document's with and without. -/
namespace Go.Proofs.YtdbamgbgnpadjaaGreat
open Go Go.RowKit

set_option maxRecDepth 100000 in
theorem rahead_t (now : Int) (p : Option Addr) (n cap : Nat) (ts : List Tim) (pa : Option Addr) (na ca : Nat) (rs : List Alm) (at_ : Int) (w : World)
 : Calls Tryz.prog 48 #[.agg #[.int .i64 now, .slice p n cap, .slice pa na ca], .int .i64 at_] w fun e w' => e = .returned (.bool (decide (aheadP now at_))) ∧ Below w.heap.size w w' := by
 refine enter (Hs.start w) Tryz.func48 rfl Tryz.ntmps48 rfl (sq_ (ma0 [] [1] (fun γ1 => [(2, .pointer (some ⟨γ1 0, 0, none⟩))]) (fun γ1 L => bx (γ1 0) (#[.int .i64 now, .slice p n cap, .slice pa na ca]) 27 :: L) (fun γ1 => ds_ (sq_ ?_))))
 by_cases q3 : (at_ : Int) > (now : Int)
 ·
  by_cases q5 : (at_ : Int) ≤ (1125899906842624 : Int)
  ·
   refine qa [(3, .go (owns 0 0 1)), (4, .yes), (7, .yes)] [] [(4, .bool true)] ([(at_ : Int) > (now : Int)] ++ ([(at_ : Int) ≤ (1125899906842624 : Int)])) (alA (al1 q3) (al1 q5)) (ds_ (rt ([]) (.bool true) ?_))
   exact fun w' hw => ⟨by rw [show decide (aheadP now at_) = true from decide_eq_true (show now < at_ ∧ at_ ≤ 1125899906842624 from by omega)], hw.below⟩
  ·
   refine qa [(3, .go (owns 0 0 1)), (4, .yes), (7, .no)] [] [(4, .bool false)] ([(at_ : Int) > (now : Int)] ++ ([¬ ((at_ : Int) ≤ (1125899906842624 : Int))])) (alA (al1 q3) (al1 q5)) (ds_ (rt ([]) (.bool false) ?_))
   exact fun w' hw => ⟨by rw [show decide (aheadP now at_) = false from decide_eq_false (fun h => by have h2 : now < at_ ∧ at_ ≤ 1125899906842624 := h; omega)], hw.below⟩
 ·
  refine qa [(3, .go (owns 0 0 1)), (4, .no)] [] [(4, .bool false)] ([¬ ((at_ : Int) > (now : Int))]) (al1 q3) (ds_ (rt ([]) (.bool false) ?_))
  exact fun w' hw => ⟨by rw [show decide (aheadP now at_) = false from decide_eq_false (fun h => by have h2 : now < at_ ∧ at_ ≤ 1125899906842624 := h; omega)], hw.below⟩

set_option maxRecDepth 100000 in
theorem without_t (now : Int) (p : Option Addr) (n cap : Nat) (ts : List Tim) (pa : Option Addr) (na ca : Nat) (rs : List Alm) (k : Int) (w : World)
 (hts : Sv w p ts) (hn : n = ts.length) (hb : n ≤ 1000)
 (hrs : Sv w pa rs) (hna : na = rs.length) (hba : na ≤ 1000)
 (hk1 : -1000 ≤ k) (hk2 : k ≤ 1000)
 : Calls Tryz.prog 51 #[.agg #[.int .i64 now, .slice p n cap, .slice pa na ca], .int .i64 k] w fun e w' => ∃ q m c Y q2 m2 c2 X, e = .returned (.agg #[.int .i64 now, .slice q m c, .slice q2 m2 c2]) ∧ SlO 42 Y q m c (wiL ts (k - 1) 0 32) ∧ SlO 32 X q2 m2 c2 (rdrop rs k) ∧ Below w.heap.size w w' ∧ Hs w (Y ++ X) w' := by
 refine enter (Hs.start w) Tryz.func51 rfl Tryz.ntmps51 rfl (sq_ (ma0 [] [1] (fun γ1 => [(2, .pointer (some ⟨γ1 0, 0, none⟩)), (4, .pointer (some ⟨γ1 1, 0, none⟩))]) (fun γ1 L => bx (γ1 1) (#[.int .i64 0, .slice none 0 0, .slice none 0 0]) 27 :: bx (γ1 0) (#[.int .i64 now, .slice p n cap, .slice pa na ca]) 27 :: L) (fun γ1 => ds_ (sq_ (qa0 [] [1, 2, 4] [(5, .slice none 0 0)] (ds_ (sq_ (sq_ (qa0 [(1, .go (owns 1 2 1))] [1, 2, 4, 5] [(9, .slice pa na ca), (10, .int .i64 (na : Nat)), (11, .int .i64 0)] (ds_ (at_block (at_loop (α := Nat × List Ob × Option Addr × Nat × Nat) [1, 2, 4, 5, 9, 10, 11] (fun ⟨j, Yo, po, nu, co⟩ => [(1, .int .i64 k), (2, .pointer (some ⟨γ1 0, 0, none⟩)), (4, .pointer (some ⟨γ1 1, 0, none⟩)), (5, .slice po nu co), (9, .slice pa na ca), (10, .int .i64 (na : Nat)), (11, .int .i64 (j : Nat))]) (fun ⟨j, Yo, po, nu, co⟩ => bx (γ1 1) (#[.int .i64 0, .slice none 0 0, .slice none 0 0]) 27 :: bx (γ1 0) (#[.int .i64 now, .slice p n cap, .slice pa na ca]) 27 :: (Yo ++ [])) (fun ⟨j, Yo, po, nu, co⟩ => j ≤ na ∧ nu ≤ j ∧ SlO 32 Yo po nu co (rdrop (rs.take j) k)) (fun ⟨j, Yo, po, nu, co⟩ => na - j) (0, [], none, 0, 0) (by kernel_rfl) rfl ⟨Nat.zero_le _, Nat.le_refl _, SlO.nil⟩ ?_))))))))))))
 rintro ⟨j, Yo, po, nu, co⟩
 rintro ⟨hj, hnu, hO⟩
 refine sq_ ?_
 by_cases q5 : ((j : Nat) : Int) < ((na : Nat) : Int)
 ·
  refine qa [(0, .yes)] [1, 2, 4, 5, 9, 10, 11] [(12, .bool true)] ([((j : Nat) : Int) < ((na : Nat) : Int)]) (al1 q5) (ds_ (sq_ (t_ (at_skip (ds_ (sq_ (at_block (sq_ ?_))))))))
  obtain ⟨b8, o8, rfl⟩ := hrs.pos (i := j) (by omega)
  obtain ⟨x10, hx10⟩ := get_some (l := rs) (m := j) (by omega)
  refine ma [(0, .at b8 o8 j), (1, .go (outs b8 (o8 + j * 3) [.int .i64 x10.vcpu, .int .i64 x10.port, .int .i64 x10.every])), (3, .go (owns 0 0 3))] [1, 2, 4, 5, 9, 10, 11] (fun γ11 => [(7, .pointer (some ⟨γ11 0, 0, none⟩))]) (fun γ11 L => bx (γ11 0) (#[.int .i64 x10.vcpu, .int .i64 x10.port, .int .i64 x10.every]) 32 :: L) (fun γ11 => [(some ⟨b8, o8, none⟩ : Option Addr) = some ⟨b8, o8, none⟩, (j : Nat) = ((j : Nat) : Int), j < na] ++ (cellsP w b8 (o8 + j * 3) [.int .i64 x10.vcpu, .int .i64 x10.port, .int .i64 x10.every])) (fun γ11 => (alA (al2 rfl (al2 rfl (al1 (by omega)))) (rd_pre (hrs.get hx10) _ rfl))) (fun γ11 => ds_ (sq_ ?_))
  by_cases q13 : (x10.vcpu : Int) ≠ (k : Int)
  ·
   refine qa [(1, .go (owns 0 0 1)), (3, .yes)] [1, 2, 4, 5, 7, 9, 10, 11] [(18, .bool true)] ([(x10.vcpu : Int) ≠ (k : Int)]) (al1 q13) (ds_ (t_ (ao_ (mo0 3 [(1, .go (owns 0 0 3))] [1, 2, 4, 9, 10, 11] (fun γ15 => [(19, .slice po nu co), (21, .slice (some ⟨γ15 0, 0, none⟩) 1 1)]) (fun γ15 L => bx (γ15 0) (#[.int .i64 x10.vcpu, .int .i64 x10.port, .int .i64 x10.every]) 32 :: L) (fun γ15 => ops_append (α := Alm) [bx (γ15 0) (#[.int .i64 x10.vcpu, .int .i64 x10.port, .int .i64 x10.every]) 32, bx (γ11 0) (#[.int .i64 x10.vcpu, .int .i64 x10.port, .int .i64 x10.every]) 32, bx (γ1 1) (#[.int .i64 0, .slice none 0 0, .slice none 0 0]) 27, bx (γ1 0) (#[.int .i64 now, .slice p n cap, .slice (some ⟨b8, o8, none⟩) na ca]) 27] Yo ([]) (.refl _) rfl (by kernel_rfl) (by kernel_rfl) (p := po) (n := nu) (cap := co) (m := 1) (yv := .slice (some ⟨γ15 0, 0, none⟩) 1 1) (by kernel_rfl) (by kernel_rfl) (T := 32) (by_ := 24) (by kernel_rfl) (rdrop (rs.take j) k) ([⟨x10.vcpu, x10.port, x10.every⟩]) hO (fun w hw => src_svn Tryz.underlying25 (sv_row (hw.row 0 rfl) (by rfl)) (by rfl)) (by rfl) (by have hmx : maxLen = 9223372036854775807 := rfl; omega) (by have hmx : maxLen = 9223372036854775807 := rfl; omega) (fun Y16 p16 cap16 hO16 => qo0 1 [] [1, 2, 4, 9, 10, 11] [(5, .slice p16 (nu + 1) cap16)] (on_ (done_block (ds_ (qa [(0, .fit)] [1, 2, 4, 5, 9, 10] [(11, .int .i64 (j + 1 : Nat))] ([Fit .i64 ((j + 1 : Nat))]) (al1 (fit64 (by omega) (by omega))) (Done.pick [[bx (γ15 0) (#[.int .i64 x10.vcpu, .int .i64 x10.port, .int .i64 x10.every]) 32], [bx (γ11 0) (#[.int .i64 x10.vcpu, .int .i64 x10.port, .int .i64 x10.every]) 32], [bx (γ1 1) (#[.int .i64 0, .slice none 0 0, .slice none 0 0]) 27], [bx (γ1 0) (#[.int .i64 now, .slice p n cap, .slice (some ⟨b8, o8, none⟩) na ca]) 27], Y16] [2, 3, 4] [0, 1] (bx (γ1 1) (#[.int .i64 0, .slice none 0 0, .slice none 0 0]) 27 :: bx (γ1 0) (#[.int .i64 now, .slice p n cap, .slice (some ⟨b8, o8, none⟩) na ca]) 27 :: (Y16 ++ [])) (by kernel_rfl) rfl rfl ?_)))))))))))
   exact dr [1, 2, 4, 5, 9, 10, 11] (j + 1, Y16, p16, (nu + 1), cap16) ⟨by omega, by omega, by rw [rdrop_yes hx10 q13]; exact hO16⟩
  ·
   refine qa [(1, .go (owns 0 0 1)), (3, .no)] [1, 2, 4, 5, 7, 9, 10, 11] [(18, .bool false)] ([¬ ((x10.vcpu : Int) ≠ (k : Int))]) (al1 q13) (ds_ (f_ (at_skip (done_block (ds_ (qa [(0, .fit)] [1, 2, 4, 5, 9, 10] [(11, .int .i64 (j + 1 : Nat))] ([Fit .i64 ((j + 1 : Nat))]) (al1 (fit64 (by omega) (by omega))) (Done.pick [[bx (γ11 0) (#[.int .i64 x10.vcpu, .int .i64 x10.port, .int .i64 x10.every]) 32], [bx (γ1 1) (#[.int .i64 0, .slice none 0 0, .slice none 0 0]) 27], [bx (γ1 0) (#[.int .i64 now, .slice p n cap, .slice (some ⟨b8, o8, none⟩) na ca]) 27], Yo] [1, 2, 3] [0] (bx (γ1 1) (#[.int .i64 0, .slice none 0 0, .slice none 0 0]) 27 :: bx (γ1 0) (#[.int .i64 now, .slice p n cap, .slice (some ⟨b8, o8, none⟩) na ca]) 27 :: (Yo ++ [])) (by kernel_rfl) rfl rfl ?_)))))))
   exact dr [1, 2, 4, 5, 9, 10, 11] (j + 1, Yo, po, nu, co) ⟨by omega, by omega, by rw [rdrop_no hx10 q13]; exact hO⟩
 ·
  refine qa [(0, .no)] [1, 2, 4, 5, 9, 10, 11] [(12, .bool false)] ([¬ (((j : Nat) : Int) < ((na : Nat) : Int))]) (al1 q5) (ds_ (sq_ (f_ (at_leave _ rfl (ds_ (sq_ ?_))))))
  rw [List.take_of_length_le (by omega)] at hO
  refine ao_ (qo 4 [(1, .go (owns 1 0 2)), (3, .fit)] [4, 5] [(25, .agg #[.int .i64 now, .slice p n cap]), (27, .int .i64 (k - 1))] ([Fit .i64 (k - 1)]) (al1 (fit64 (by omega) (by omega))) (cP (fun v L' => ∃ q_ c_ Y_, v = .agg #[.int .i64 now, .slice q_ (wiL ts (k - 1) 0 32).length c_] ∧ L' = List.take 2 (bx (γ1 1) (#[.int .i64 0, .slice none 0 0, .slice none 0 0]) 27 :: bx (γ1 0) (#[.int .i64 now, .slice p n cap, .slice pa na ca]) 27 :: (Yo ++ [])) ++ (Y_ ++ List.drop 2 (bx (γ1 1) (#[.int .i64 0, .slice none 0 0, .slice none 0 0]) 27 :: bx (γ1 0) (#[.int .i64 now, .slice p n cap, .slice pa na ca]) 27 :: (Yo ++ []))) ∧ SlO 42 Y_ q_ (wiL ts (k - 1) 0 32).length c_ (wiL ts (k - 1) 0 32)) (fun args w => Tryz.call52 args w) (fun w hw => (with_t now p n cap ts (k - 1) 0 w (hts.kept hw.below) hn (by omega)).mono fun e w' ⟨q_, c_, Y_, he, hO, hb, hY⟩ => ⟨_, _, he, ⟨q_, c_, Y_, rfl, rfl, hO⟩, hw.join hb hY 2⟩) ?_))
  rintro v23 L23 ⟨q23, cq23, Y23, rfl, rfl, hO23⟩
  have hwl23 := wiL_len (ts := ts) (k := (k - 1)) (at_ := 0)
  refine mo0 3 [(7, .go (owns 0 0 3))] [4] (fun _ => []) (fun _ L => (L.set 0 (bx (γ1 1) (#[.int .i64 now, .slice q23 ((wiL ts (k - 1) 0 32).length) cq23, .slice po nu co]) 27))) (fun _ => on_ (ds_ (rt (owns 0 0 3) (.agg #[.int .i64 now, .slice q23 ((wiL ts (k - 1) 0 32).length) cq23, .slice po nu co]) ?_)))
  exact fun w' hw => ⟨_, _, _, _, _, _, _, _, rfl, hO23, hO, hw.below, two_tails (Hs.pick [[bx (γ1 1) (#[.int .i64 now, .slice q23 ((wiL ts (k - 1) 0 32).length) cq23, .slice po nu co]) 27], [bx (γ1 0) (#[.int .i64 now, .slice p n cap, .slice pa na ca]) 27], Y23, Yo] [2, 3] [0, 1] (by kernel_rfl) hw)⟩

set_option maxRecDepth 100000 in
theorem rwith_t (now : Int) (p : Option Addr) (n cap : Nat) (ts : List Tim) (pa : Option Addr) (na ca : Nat) (rs : List Alm) (x : Alm) (at_ : Int) (w : World)
 (hts : Sv w p ts) (hn : n = ts.length) (hb : n ≤ 1000)
 (hrs : Sv w pa rs) (hna : na = rs.length) (hba : na ≤ 1000)
 (hr : Ris Alm.vcpu rs) (hk1 : 1 ≤ x.vcpu) (hk2 : x.vcpu ≤ 16)
 : Calls Tryz.prog 49 #[.agg #[.int .i64 now, .slice p n cap, .slice pa na ca], .agg #[.int .i64 x.vcpu, .int .i64 x.port, .int .i64 x.every], .int .i64 at_] w fun e w' => ∃ q m c Y q2 m2 c2 X, e = .returned (.agg #[.int .i64 now, .slice q m c, .slice q2 m2 c2]) ∧ SlO 42 Y q m c (wiL (wiL ts (x.vcpu - 1) 0 32) (x.vcpu - 1) at_ 32) ∧ SlO 32 X q2 m2 c2 (wrL (rdrop rs x.vcpu) x 16) ∧ Below w.heap.size w w' ∧ Hs w (Y ++ X) w' := by
 refine enter (Hs.start w) Tryz.func49 rfl Tryz.ntmps49 rfl (sq_ (ma0 [] [2] (fun γ1 => [(3, .pointer (some ⟨γ1 0, 0, none⟩)), (4, .pointer (some ⟨γ1 1, 0, none⟩)), (6, .pointer (some ⟨γ1 2, 0, none⟩))]) (fun γ1 L => bx (γ1 2) (#[.int .i64 0, .slice none 0 0, .slice none 0 0]) 27 :: bx (γ1 1) (#[.int .i64 x.vcpu, .int .i64 x.port, .int .i64 x.every]) 32 :: bx (γ1 0) (#[.int .i64 now, .slice p n cap, .slice pa na ca]) 27 :: L) (fun γ1 => ds_ (sq_ (ao_ (qo0 3 [(0, .go (owns 2 0 3)), (2, .go (owns 1 0 1))] [2, 3, 4, 6] [(10, .agg #[.int .i64 now, .slice p n cap, .slice pa na ca]), (12, .int .i64 x.vcpu)] (cP (fun v L' => ∃ q_ m_ c_ Y_ q2_ m2_ c2_ X_, v = .agg #[.int .i64 now, .slice q_ m_ c_, .slice q2_ m2_ c2_] ∧ L' = List.take 3 ([bx (γ1 2) (#[.int .i64 0, .slice none 0 0, .slice none 0 0]) 27, bx (γ1 1) (#[.int .i64 x.vcpu, .int .i64 x.port, .int .i64 x.every]) 32, bx (γ1 0) (#[.int .i64 now, .slice p n cap, .slice pa na ca]) 27]) ++ (Y_ ++ (X_ ++ List.drop 3 ([bx (γ1 2) (#[.int .i64 0, .slice none 0 0, .slice none 0 0]) 27, bx (γ1 1) (#[.int .i64 x.vcpu, .int .i64 x.port, .int .i64 x.every]) 32, bx (γ1 0) (#[.int .i64 now, .slice p n cap, .slice pa na ca]) 27]))) ∧ SlO 42 Y_ q_ m_ c_ (wiL ts (x.vcpu - 1) 0 32) ∧ SlO 32 X_ q2_ m2_ c2_ (rdrop rs x.vcpu)) (fun args w => Tryz.call51 args w) (fun w hw => (without_t now p n cap ts pa na ca rs x.vcpu w (hts.kept hw.below) hn (by omega) (hrs.kept hw.below) hna (by omega) (by omega) (by omega)).mono fun e w' ⟨q_, m_, c_, Y_, q2_, m2_, c2_, X_, he, h1, h2, hb, hY⟩ => ⟨_, _, he, ⟨q_, m_, c_, Y_, q2_, m2_, c2_, X_, rfl, rfl, h1, h2⟩, hw.joinT hb hY 3⟩) ?_)))))))
 rintro v3 L3 ⟨q3, m3, c3, Y3, p3, k3, d3, Yx3, rfl, rfl, hO3, hP3⟩
 have hm3 := hO3.len
 have hn3 := hP3.len
 refine mo0 1 [(4, .go (owns 2 0 3))] [2, 3, 4, 6] (fun _ => []) (fun _ L => (L.set 2 (bx (γ1 0) (#[.int .i64 now, .slice q3 m3 c3, .slice p3 k3 d3]) 27))) (fun _ => on_ (ds_ (sq_ (qa0 [] [2, 3, 4, 6] [(7, .slice none 0 0)] (ds_ (sq_ (sq_ ?_)))))))
 have hr0 := ris_rdrop (v := x.vcpu) hr
 have hrl := rdrop_len (rs := rs) (k := x.vcpu)
 have hwl := wiL_len (ts := ts) (k := x.vcpu - 1) (at_ := 0)
 refine qa0 [] [2, 3, 4, 6, 7] [(8, .int .i64 1)] (ds_ (at_block (at_loop (α := Nat × List Ob × Option Addr × Nat × Nat) [2, 3, 4, 6, 7, 8] (fun ⟨j, Yo, po, nu, co⟩ => [(2, .int .i64 at_), (3, .pointer (some ⟨γ1 0, 0, none⟩)), (4, .pointer (some ⟨γ1 1, 0, none⟩)), (6, .pointer (some ⟨γ1 2, 0, none⟩)), (7, .slice po nu co), (8, .int .i64 (j + 1 : Nat))]) (fun ⟨j, Yo, po, nu, co⟩ => bx (γ1 2) (#[.int .i64 0, .slice none 0 0, .slice none 0 0]) 27 :: bx (γ1 1) (#[.int .i64 x.vcpu, .int .i64 x.port, .int .i64 x.every]) 32 :: bx (γ1 0) (#[.int .i64 now, .slice q3 m3 c3, .slice p3 k3 d3]) 27 :: (Yo ++ (Y3 ++ (Yx3 ++ [])))) (fun ⟨j, Yo, po, nu, co⟩ => j ≤ 16 ∧ nu ≤ j ∧ SlO 32 Yo po nu co (wrL (rdrop rs x.vcpu) x j)) (fun ⟨j, Yo, po, nu, co⟩ => 16 - j) (0, [], none, 0, 0) (by kernel_rfl) rfl ⟨Nat.zero_le _, Nat.le_refl _, SlO.nil⟩ ?_)))
 rintro ⟨j, Yo, po, nu, co⟩
 rintro ⟨hj, hnu, hO⟩
 refine sq_ (sq_ ?_)
 by_cases q8 : ((j + 1 : Nat) : Int) ≤ (16 : Int)
 ·
  refine qa [(1, .yes)] [2, 3, 4, 6, 7, 8] [(15, .bool true)] ([((j + 1 : Nat) : Int) ≤ (16 : Int)]) (al1 q8) (ds_ (t_ (at_skip (ds_ (sq_ (at_block (sq_ (sq_ ?_))))))))
  by_cases q11 : ((j + 1 : Nat) : Int) = (x.vcpu : Int)
  ·
   refine qa [(2, .go (owns 1 0 1)), (3, .yes)] [2, 3, 4, 6, 7, 8] [(21, .bool true)] ([((j + 1 : Nat) : Int) = (x.vcpu : Int)]) (al1 q11) (ds_ (t_ (ao_ (mo0 3 [(1, .go (owns 1 0 3))] [2, 3, 4, 6, 8] (fun γ13 => [(22, .slice po nu co), (24, .slice (some ⟨γ13 0, 0, none⟩) 1 1)]) (fun γ13 L => bx (γ13 0) (#[.int .i64 x.vcpu, .int .i64 x.port, .int .i64 x.every]) 32 :: L) (fun γ13 => ops_append (α := Alm) [bx (γ13 0) (#[.int .i64 x.vcpu, .int .i64 x.port, .int .i64 x.every]) 32, bx (γ1 2) (#[.int .i64 0, .slice none 0 0, .slice none 0 0]) 27, bx (γ1 1) (#[.int .i64 x.vcpu, .int .i64 x.port, .int .i64 x.every]) 32, bx (γ1 0) (#[.int .i64 now, .slice q3 m3 c3, .slice p3 k3 d3]) 27] Yo (Y3 ++ (Yx3 ++ [])) (.refl _) rfl (by kernel_rfl) (by kernel_rfl) (p := po) (n := nu) (cap := co) (m := 1) (yv := .slice (some ⟨γ13 0, 0, none⟩) 1 1) (by kernel_rfl) (by kernel_rfl) (T := 32) (by_ := 24) (by kernel_rfl) (wrL (rdrop rs x.vcpu) x j) ([⟨x.vcpu, x.port, x.every⟩]) hO (fun w hw => src_svn Tryz.underlying25 (sv_row (hw.row 0 rfl) (by rfl)) (by rfl)) (by rfl) (by have hmx : maxLen = 9223372036854775807 := rfl; omega) (by have hmx : maxLen = 9223372036854775807 := rfl; omega) (fun Y14 p14 cap14 hO14 => qo0 1 [] [2, 3, 4, 6, 8] [(7, .slice p14 (nu + 1) cap14)] (on_ (ds_ (sq_ ?_)))))))))
   have hno : getK Alm.vcpu (rdrop rs x.vcpu) (j + 1 : Nat) = none := by rw [q11]; exact get_rdrop_self
   refine ao_ (qo0 2 [(0, .go (owns 3 0 3))] [2, 3, 4, 6, 7, 8] [(26, .agg #[.int .i64 now, .slice q3 m3 c3, .slice p3 k3 d3]), (27, .int .i64 (j + 1 : Nat))] (cD (.int .i64 (-1)) (fun args w => Tryz.call47 args w) (fun w hw => by have := rfind_t now q3 m3 c3 (wiL ts (x.vcpu - 1) 0 32) p3 k3 d3 (rdrop rs x.vcpu) (j + 1 : Nat) w (hO3.atN (A := (_ :: _ :: _ :: _ :: Y14)) hw) hO3.len (by omega) (hP3.at ((hw.tailN 4).sub ((List.sublist_append_right Y3 _).trans (List.sublist_append_right Y14 _)))) hP3.len (by omega); rw [fd_none hno] at this; exact this) (qo0 1 [] [2, 3, 4, 6, 7, 8] [(9, .int .i64 (-1))] (on_ (ds_ (sq_ (qa0 [] [2, 3, 4, 6, 7, 8, 9] [(30, .bool false)] (ds_ (f_ (at_skip (done_block (ds_ (qa [(1, .fit)] [2, 3, 4, 6, 7] [(8, .int .i64 (j + 1 + 1 : Nat))] ([Fit .i64 ((j + 1 + 1 : Nat))]) (al1 (fit64 (by omega) (by omega))) (Done.pick [[bx (γ13 0) (#[.int .i64 x.vcpu, .int .i64 x.port, .int .i64 x.every]) 32], [bx (γ1 2) (#[.int .i64 0, .slice none 0 0, .slice none 0 0]) 27], [bx (γ1 1) (#[.int .i64 x.vcpu, .int .i64 x.port, .int .i64 x.every]) 32], [bx (γ1 0) (#[.int .i64 now, .slice q3 m3 c3, .slice p3 k3 d3]) 27], Y14, Y3, Yx3] [1, 2, 3, 4, 5, 6] [0] (bx (γ1 2) (#[.int .i64 0, .slice none 0 0, .slice none 0 0]) 27 :: bx (γ1 1) (#[.int .i64 x.vcpu, .int .i64 x.port, .int .i64 x.every]) 32 :: bx (γ1 0) (#[.int .i64 now, .slice q3 m3 c3, .slice p3 k3 d3]) 27 :: (Y14 ++ (Y3 ++ (Yx3 ++ [])))) (by kernel_rfl) rfl rfl ?_))))))))))))))
   exact dr [2, 3, 4, 6, 7, 8] (j + 1, Y14, p14, (nu + 1), cap14) ⟨by omega, by omega, by rw [wr_on, wr_own q11]; exact hO14⟩
  ·
   refine qa [(2, .go (owns 1 0 1)), (3, .no)] [2, 3, 4, 6, 7, 8] [(21, .bool false)] ([¬ (((j + 1 : Nat) : Int) = (x.vcpu : Int))]) (al1 q11) (ds_ (f_ (at_skip (ds_ (sq_ (ao_ (qo0 2 [(0, .go (owns 2 0 3))] [2, 3, 4, 6, 7, 8] [(26, .agg #[.int .i64 now, .slice q3 m3 c3, .slice p3 k3 d3]), (27, .int .i64 (j + 1 : Nat))] ?_)))))))
   rcases ha22 : getK Alm.vcpu (rdrop rs x.vcpu) (j + 1 : Nat) with _ | z22
   ·
    refine cD (.int .i64 (-1)) (fun args w => Tryz.call47 args w) (fun w hw => by have := rfind_t now q3 m3 c3 (wiL ts (x.vcpu - 1) 0 32) p3 k3 d3 (rdrop rs x.vcpu) (j + 1 : Nat) w (hO3.atN (A := (_ :: _ :: _ :: Yo)) hw) hO3.len (by omega) (hP3.at ((hw.tailN 3).sub ((List.sublist_append_right Y3 _).trans (List.sublist_append_right Yo _)))) hP3.len (by omega); rw [fd_none ha22] at this; exact this) (qo0 1 [] [2, 3, 4, 6, 7, 8] [(9, .int .i64 (-1))] (on_ (ds_ (sq_ (qa0 [] [2, 3, 4, 6, 7, 8, 9] [(30, .bool false)] (ds_ (f_ (at_skip (done_block (ds_ (qa [(1, .fit)] [2, 3, 4, 6, 7] [(8, .int .i64 (j + 1 + 1 : Nat))] ([Fit .i64 ((j + 1 + 1 : Nat))]) (al1 (fit64 (by omega) (by omega))) ?_)))))))))))
    exact dr [2, 3, 4, 6, 7, 8] (j + 1, Yo, po, nu, co) ⟨by omega, by omega, by rw [wr_on, wr_none q11 ha22, List.append_nil]; exact hO⟩
   ·
    obtain ⟨i26, hi26, hx26⟩ := fd_some hr0 ha22
    have hl26 := (List.getElem?_eq_some_iff.1 hx26).1
    refine cD (.int .i64 (i26 : Nat)) (fun args w => Tryz.call47 args w) (fun w hw => by have := rfind_t now q3 m3 c3 (wiL ts (x.vcpu - 1) 0 32) p3 k3 d3 (rdrop rs x.vcpu) (j + 1 : Nat) w (hO3.atN (A := (_ :: _ :: _ :: Yo)) hw) hO3.len (by omega) (hP3.at ((hw.tailN 3).sub ((List.sublist_append_right Y3 _).trans (List.sublist_append_right Yo _)))) hP3.len (by omega); rw [hi26] at this; exact this) (qo0 1 [] [2, 3, 4, 6, 7, 8] [(9, .int .i64 (i26 : Nat))] (on_ (ds_ (sq_ (qa [(1, .yes)] [2, 3, 4, 6, 7, 8, 9] [(30, .bool true)] ([((i26 : Nat) : Int) ≥ (0 : Int)]) (al1 (by omega)) (ds_ (t_ (At.pick [[bx (γ1 2) (#[.int .i64 0, .slice none 0 0, .slice none 0 0]) 27], [bx (γ1 1) (#[.int .i64 x.vcpu, .int .i64 x.port, .int .i64 x.every]) 32], [bx (γ1 0) (#[.int .i64 now, .slice q3 m3 c3, .slice p3 k3 d3]) 27], Yo, Y3, Yx3] [0, 1, 2, 5, 3, 4] [] (bx (γ1 2) (#[.int .i64 0, .slice none 0 0, .slice none 0 0]) 27 :: bx (γ1 1) (#[.int .i64 x.vcpu, .int .i64 x.port, .int .i64 x.every]) 32 :: bx (γ1 0) (#[.int .i64 now, .slice q3 m3 c3, .slice p3 k3 d3]) 27 :: (Yx3 ++ (Yo ++ (Y3 ++ [])))) (by kernel_rfl) rfl rfl ?_))))))))
    have hln30 := hP3.len
    obtain ⟨g30, cs30, rfl, rfl, hOw30⟩ := hP3.rowOf (i := i26) (by omega)
    refine ao_ (mo 7 [(2, .go (owns 2 2 1)), (4, .at g30 0 i26), (5, .go (ownps 3 (0 + i26 * 3) [.int .i64 z22.vcpu, .int .i64 z22.port, .int .i64 z22.every]))] [2, 3, 4, 6, 8] (fun γ31 => [(31, .slice po nu co), (37, .slice (some ⟨γ31 0, 0, none⟩) 1 1)]) (fun γ31 L => bx (γ31 0) (#[.int .i64 z22.vcpu, .int .i64 z22.port, .int .i64 z22.every]) 32 :: L) (fun γ31 => [(some ⟨g30, 0, none⟩ : Option Addr) = some ⟨g30, 0, none⟩, (i26 : Nat) = ((i26 : Nat) : Int), i26 < k3] ++ (acellsP cs30 (0 + i26 * 3) [.int .i64 z22.vcpu, .int .i64 z22.port, .int .i64 z22.every])) (fun γ31 => (alA (al2 rfl (al2 rfl (al1 (by omega)))) (rda_pre (hOw30.rdx hP3.len hx26) _ rfl))) (fun γ31 => ops_append (α := Alm) [bx (γ31 0) (#[.int .i64 z22.vcpu, .int .i64 z22.port, .int .i64 z22.every]) 32, bx (γ1 2) (#[.int .i64 0, .slice none 0 0, .slice none 0 0]) 27, bx (γ1 1) (#[.int .i64 x.vcpu, .int .i64 x.port, .int .i64 x.every]) 32, bx (γ1 0) (#[.int .i64 now, .slice q3 m3 c3, .slice (some ⟨g30, 0, none⟩) k3 d3]) 27, bx g30 cs30 32] Yo (Y3 ++ []) (.refl _) rfl (by kernel_rfl) (by kernel_rfl) (p := po) (n := nu) (cap := co) (m := 1) (yv := .slice (some ⟨γ31 0, 0, none⟩) 1 1) (by kernel_rfl) (by kernel_rfl) (T := 32) (by_ := 24) (by kernel_rfl) (wrL (rdrop rs x.vcpu) x j) ([⟨z22.vcpu, z22.port, z22.every⟩]) hO (fun w hw => src_svn Tryz.underlying25 (sv_row (hw.row 0 rfl) (by rfl)) (by rfl)) (by rfl) (by have hmx : maxLen = 9223372036854775807 := rfl; omega) (by have hmx : maxLen = 9223372036854775807 := rfl; omega) (fun Y32 p32 cap32 hO32 => qo0 1 [] [2, 3, 4, 6, 8] [(7, .slice p32 (nu + 1) cap32)] (on_ (done_block (ds_ (qa [(1, .fit)] [2, 3, 4, 6, 7] [(8, .int .i64 (j + 1 + 1 : Nat))] ([Fit .i64 ((j + 1 + 1 : Nat))]) (al1 (fit64 (by omega) (by omega))) (Done.pick [[bx (γ31 0) (#[.int .i64 z22.vcpu, .int .i64 z22.port, .int .i64 z22.every]) 32], [bx (γ1 2) (#[.int .i64 0, .slice none 0 0, .slice none 0 0]) 27], [bx (γ1 1) (#[.int .i64 x.vcpu, .int .i64 x.port, .int .i64 x.every]) 32], [bx (γ1 0) (#[.int .i64 now, .slice q3 m3 c3, .slice (some ⟨g30, 0, none⟩) k3 d3]) 27], [bx g30 cs30 32], Y32, Y3] [1, 2, 3, 5, 6, 4] [0] (bx (γ1 2) (#[.int .i64 0, .slice none 0 0, .slice none 0 0]) 27 :: bx (γ1 1) (#[.int .i64 x.vcpu, .int .i64 x.port, .int .i64 x.every]) 32 :: bx (γ1 0) (#[.int .i64 now, .slice q3 m3 c3, .slice (some ⟨g30, 0, none⟩) k3 d3]) 27 :: (Y32 ++ (Y3 ++ ([bx g30 cs30 32])))) (by kernel_rfl) rfl rfl ?_))))))))
    exact dr [2, 3, 4, 6, 7, 8] (j + 1, Y32, p32, (nu + 1), cap32) ⟨by omega, by omega, by rw [wr_on, wr_row q11 ha22]; exact hO32⟩
 ·
  refine qa [(1, .no)] [2, 3, 4, 6, 7, 8] [(15, .bool false)] ([¬ (((j + 1 : Nat) : Int) ≤ (16 : Int))]) (al1 q8) (ds_ (f_ (at_leave _ rfl (ds_ (sq_ ?_)))))
  obtain rfl : j = 16 := by omega
  refine ao_ (qo 6 [(1, .go (owns 2 0 2)), (3, .go (owns 1 0 1)), (4, .fit)] [6, 7] [(40, .agg #[.int .i64 now, .slice q3 m3 c3]), (43, .int .i64 (x.vcpu - 1)), (44, .int .i64 at_)] ([Fit .i64 (x.vcpu - 1)]) (al1 (fit64 (by omega) (by omega))) (cP (fun v L' => ∃ q_ c_ Y_, v = .agg #[.int .i64 now, .slice q_ (wiL (wiL ts (x.vcpu - 1) 0 32) (x.vcpu - 1) at_ 32).length c_] ∧ L' = List.take 3 (bx (γ1 2) (#[.int .i64 0, .slice none 0 0, .slice none 0 0]) 27 :: bx (γ1 1) (#[.int .i64 x.vcpu, .int .i64 x.port, .int .i64 x.every]) 32 :: bx (γ1 0) (#[.int .i64 now, .slice q3 m3 c3, .slice p3 k3 d3]) 27 :: (Yo ++ (Y3 ++ (Yx3 ++ [])))) ++ (Y_ ++ List.drop 3 (bx (γ1 2) (#[.int .i64 0, .slice none 0 0, .slice none 0 0]) 27 :: bx (γ1 1) (#[.int .i64 x.vcpu, .int .i64 x.port, .int .i64 x.every]) 32 :: bx (γ1 0) (#[.int .i64 now, .slice q3 m3 c3, .slice p3 k3 d3]) 27 :: (Yo ++ (Y3 ++ (Yx3 ++ []))))) ∧ SlO 42 Y_ q_ (wiL (wiL ts (x.vcpu - 1) 0 32) (x.vcpu - 1) at_ 32).length c_ (wiL (wiL ts (x.vcpu - 1) 0 32) (x.vcpu - 1) at_ 32)) (fun args w => Tryz.call52 args w) (fun w hw => (with_t now q3 m3 c3 (wiL ts (x.vcpu - 1) 0 32) (x.vcpu - 1) at_ w (hO3.atN (A := (_ :: _ :: _ :: Yo)) hw) hO3.len (by omega)).mono fun e w' ⟨q_, c_, Y_, he, hO, hb, hY⟩ => ⟨_, _, he, ⟨q_, c_, Y_, rfl, rfl, hO⟩, hw.join hb hY 3⟩) ?_))
  rintro v37 L37 ⟨q37, cq37, Y37, rfl, rfl, hO37⟩
  have hwl37 := wiL_len (ts := (wiL ts (x.vcpu - 1) 0 32)) (k := (x.vcpu - 1)) (at_ := at_)
  refine mo0 3 [(9, .go (owns 0 0 3))] [6] (fun _ => []) (fun _ L => (L.set 0 (bx (γ1 2) (#[.int .i64 now, .slice q37 ((wiL (wiL ts (x.vcpu - 1) 0 32) (x.vcpu - 1) at_ 32).length) cq37, .slice po nu co]) 27))) (fun _ => on_ (ds_ (rt (owns 0 0 3) (.agg #[.int .i64 now, .slice q37 ((wiL (wiL ts (x.vcpu - 1) 0 32) (x.vcpu - 1) at_ 32).length) cq37, .slice po nu co]) ?_)))
  exact fun w' hw => ⟨_, _, _, _, _, _, _, _, rfl, hO37, hO, hw.below, two_tails (Hs.pick [[bx (γ1 2) (#[.int .i64 now, .slice q37 ((wiL (wiL ts (x.vcpu - 1) 0 32) (x.vcpu - 1) at_ 32).length) cq37, .slice po nu co]) 27], [bx (γ1 1) (#[.int .i64 x.vcpu, .int .i64 x.port, .int .i64 x.every]) 32], [bx (γ1 0) (#[.int .i64 now, .slice q3 m3 c3, .slice p3 k3 d3]) 27], Y37, Yo, Y3, Yx3] [3, 4] [0, 1, 2, 5, 6] (by kernel_rfl) hw)⟩
end Go.Proofs.YtdbamgbgnpadjaaGreat

/-! Alarms: the document's Start, Stop, Sleep, Wake. -/
namespace Go.Proofs.YtdbamgbgnpadjaaGreat
open Go Go.RowKit
theorem SlO.as {α : Type} [Enc α] {T : TypeId} {Y : List Ob} {p : Option Addr} {n cap : Nat} {l l' : List α} (h : SlO T Y p n cap l) (e : l = l') : SlO T Y p n cap l' := e ▸ h
theorem SlO.cap {α : Type} [Enc α] {T : TypeId} {Y : List Ob} {p : Option Addr} {n cap : Nat} {l : List α} (h : SlO T Y p n cap l) : n ≤ cap := by
  rcases h with ⟨_, _, h, h2, _⟩ | ⟨g, cs, _, _, _, h⟩
  · omega
  · exact h.le
theorem SlO.big {α : Type} [Enc α] {T : TypeId} {Y : List Ob} {p : Option Addr} {n cap : Nat} {l : List α} (h : SlO T Y p n cap l) : cap ≤ 9223372036854775807 := by
  rcases h with ⟨_, _, h, h2, _⟩ | ⟨g, cs, _, _, _, h⟩
  · omega
  · exact h.max

set_option maxRecDepth 100000 in
theorem rstart_t (now : Int) (p : Option Addr) (n cap : Nat) (ts : List Tim) (pa : Option Addr) (na ca : Nat) (rs : List Alm) (x : Alm) (at_ : Int) (w : World)
    (hts : Sv w p ts) (hn : n = ts.length) (hb : n ≤ 1000)
    (hrs : Sv w pa rs) (hna : na = rs.length) (hba : na ≤ 1000)
    (hg : alB now ts rs = true)
    : Calls Tryz.prog 19 #[.agg #[.int .i64 now, .slice p n cap, .slice pa na ca], .agg #[.int .i64 x.vcpu, .int .i64 x.port, .int .i64 x.every], .int .i64 at_] w fun e w' => ∃ q m c Y q2 m2 c2 X, e = .returned (.tuple #[.agg #[.int .i64 (startV now ts rs x at_).1, .slice q m c, .slice q2 m2 c2], .int .i64 (startV now ts rs x at_).2.2.2]) ∧ SlO 42 Y q m c (startV now ts rs x at_).2.1 ∧ SlO 32 X q2 m2 c2 (startV now ts rs x at_).2.2.1 ∧ Below w.heap.size w w' ∧ Hs w (Y ++ X) w' := by
  refine enter (Hs.start w) Tryz.func19 rfl Tryz.ntmps19 rfl (sq_ (ma0 [] [2] (fun γ1 => [(3, .pointer (some ⟨γ1 0, 0, none⟩)), (4, .pointer (some ⟨γ1 1, 0, none⟩)), (6, .pointer (some ⟨γ1 2, 0, none⟩))]) (fun γ1 L => bx (γ1 2) (#[.int .i64 0, .slice none 0 0, .slice none 0 0]) 27 :: bx (γ1 1) (#[.int .i64 x.vcpu, .int .i64 x.port, .int .i64 x.every]) 32 :: bx (γ1 0) (#[.int .i64 now, .slice p n cap, .slice pa na ca]) 27 :: L) (fun γ1 => ds_ (sq_ (sq_ ?_)))))
  have hgA := al_iff.1 hg
  have hn0 := hgA.gw.n0
  have hn1 := hgA.gw.n1
  have hl0 := hgA.gw.len
  have hl0r := hgA.rl
  refine ao_ (qo0 1 [(0, .go (owns 1 0 3))] [2, 3, 4, 6] [(8, .agg #[.int .i64 x.vcpu, .int .i64 x.port, .int .i64 x.every])] ?_)
  rcases q3 : almB x with _ | _
  ·
    refine cD (.bool false) (fun args w => Tryz.call44 args w) (fun w hw => by have := ralm_t x w; rw [q3] at this; exact this) (qo0 7 [] [2, 3, 4, 6] [(16, .bool true)] (on_ (ds_ (t_ (sq_ (qa0 [(1, .go (owns 0 0 3))] [6] [(7, .int .i64 2)] (ds_ (rt (owns 0 0 3) (.tuple #[.agg #[.int .i64 0, .slice none 0 0, .slice none 0 0], .int .i64 2]) ?_))))))))
    exact fun w' hw => by rw [startV_arg hg q3]; exact ⟨none, 0, 0, [], none, 0, 0, [], rfl, SlO.nil, SlO.nil, hw.below, hw.sub (List.nil_sublist _)⟩
  ·
    refine cD (.bool true) (fun args w => Tryz.call44 args w) (fun w hw => by have := ralm_t x w; rw [q3] at this; exact this) (qo0 4 [(4, .go (owns 2 0 3))] [2, 3, 4, 6] [(11, .bool false), (12, .agg #[.int .i64 now, .slice p n cap, .slice pa na ca]), (13, .int .i64 at_)] ?_)
    rcases q7 : decide (aheadP now at_) with _ | _
    ·
      refine cD (.bool false) (fun args w => Tryz.call48 args w) (fun w hw => by have := rahead_t now p n cap ts pa na ca rs at_ w; rw [q7] at this; exact this) (qo0 2 [] [2, 3, 4, 6] [(16, .bool true)] (on_ (ds_ (t_ (sq_ (qa0 [(1, .go (owns 0 0 3))] [6] [(7, .int .i64 2)] (ds_ (rt (owns 0 0 3) (.tuple #[.agg #[.int .i64 0, .slice none 0 0, .slice none 0 0], .int .i64 2]) ?_))))))))
      exact fun w' hw => by rw [startV_nah hg (of_decide_eq_false q7)]; exact ⟨none, 0, 0, [], none, 0, 0, [], rfl, SlO.nil, SlO.nil, hw.below, hw.sub (List.nil_sublist _)⟩
    ·
      refine cD (.bool true) (fun args w => Tryz.call48 args w) (fun w hw => by have := rahead_t now p n cap ts pa na ca rs at_ w; rw [q7] at this; exact this) (qo0 2 [] [2, 3, 4, 6] [(16, .bool false)] (on_ (ds_ (f_ (at_skip (ds_ (sq_ ?_)))))))
      have hav := alm_id q3
      refine ao_ (qo0 3 [(0, .go (owns 2 0 3)), (1, .go (owns 1 0 3))] [6] [(18, .agg #[.int .i64 now, .slice p n cap, .slice pa na ca]), (19, .agg #[.int .i64 x.vcpu, .int .i64 x.port, .int .i64 x.every]), (20, .int .i64 at_)] (cP (fun v L' => ∃ q_ m_ c_ Y_ q2_ m2_ c2_ X_, v = .agg #[.int .i64 now, .slice q_ m_ c_, .slice q2_ m2_ c2_] ∧ L' = List.take 3 ([bx (γ1 2) (#[.int .i64 0, .slice none 0 0, .slice none 0 0]) 27, bx (γ1 1) (#[.int .i64 x.vcpu, .int .i64 x.port, .int .i64 x.every]) 32, bx (γ1 0) (#[.int .i64 now, .slice p n cap, .slice pa na ca]) 27]) ++ (Y_ ++ (X_ ++ List.drop 3 ([bx (γ1 2) (#[.int .i64 0, .slice none 0 0, .slice none 0 0]) 27, bx (γ1 1) (#[.int .i64 x.vcpu, .int .i64 x.port, .int .i64 x.every]) 32, bx (γ1 0) (#[.int .i64 now, .slice p n cap, .slice pa na ca]) 27]))) ∧ SlO 42 Y_ q_ m_ c_ (wiL (wiL ts (x.vcpu - 1) 0 32) (x.vcpu - 1) at_ 32) ∧ SlO 32 X_ q2_ m2_ c2_ (wrL (rdrop rs x.vcpu) x 16)) (fun args w => Tryz.call49 args w) (fun w hw => (rwith_t now p n cap ts pa na ca rs x at_ w (hts.kept hw.below) hn (by omega) (hrs.kept hw.below) hna (by omega) hgA.rr (by omega) (by omega)).mono fun e w' ⟨q_, m_, c_, Y_, q2_, m2_, c2_, X_, he, h1, h2, hb, hY⟩ => ⟨_, _, he, ⟨q_, m_, c_, Y_, q2_, m2_, c2_, X_, rfl, rfl, h1, h2⟩, hw.joinT hb hY 3⟩) ?_))
      rintro v12 L12 ⟨q12, m12, c12, Y12, p12, k12, d12, Yx12, rfl, rfl, hO12, hP12⟩
      have hm12 := hO12.len
      have hn12 := hP12.len
      refine mo0 2 [(4, .go (owns 0 0 3))] [6] (fun _ => [(7, .int .i64 0)]) (fun _ L => (L.set 0 (bx (γ1 2) (#[.int .i64 now, .slice q12 m12 c12, .slice p12 k12 d12]) 27))) (fun _ => on_ (ds_ (rt (owns 0 0 3) (.tuple #[.agg #[.int .i64 now, .slice q12 m12 c12, .slice p12 k12 d12], .int .i64 0]) ?_)))
      exact fun w' hw => by rw [startV_ok hg ⟨q3, of_decide_eq_true q7⟩]; exact ⟨_, _, _, _, _, _, _, _, rfl, SlO.as hO12 (by rw [wi_two hgA.gw (by omega) (by omega) (by have hah : now < at_ ∧ at_ ≤ 1125899906842624 := of_decide_eq_true q7; omega)]), SlO.as hP12 (by rw [wr_put hgA.rr hgA.al q3]), hw.below, two_tails (Hs.pick [[bx (γ1 2) (#[.int .i64 now, .slice q12 m12 c12, .slice p12 k12 d12]) 27], [bx (γ1 1) (#[.int .i64 x.vcpu, .int .i64 x.port, .int .i64 x.every]) 32], [bx (γ1 0) (#[.int .i64 now, .slice p n cap, .slice pa na ca]) 27], Y12, Yx12] [3, 4] [0, 1, 2] (by kernel_rfl) hw)⟩

set_option maxRecDepth 100000 in
theorem rstop_t (now : Int) (p : Option Addr) (n cap : Nat) (ts : List Tim) (pa : Option Addr) (na ca : Nat) (rs : List Alm) (k : Int) (w : World)
    (hts : Sv w p ts) (hn : n = ts.length) (hb : n ≤ 1000)
    (hrs : Sv w pa rs) (hna : na = rs.length) (hba : na ≤ 1000)
    (hg : alB now ts rs = true)
    : Calls Tryz.prog 20 #[.agg #[.int .i64 now, .slice p n cap, .slice pa na ca], .int .i64 k] w fun e w' => ∃ q m c Y q2 m2 c2 X, e = .returned (.tuple #[.agg #[.int .i64 (stopV now ts rs k).1, .slice q m c, .slice q2 m2 c2], .int .i64 (stopV now ts rs k).2.2.2]) ∧ SlO 42 Y q m c (stopV now ts rs k).2.1 ∧ SlO 32 X q2 m2 c2 (stopV now ts rs k).2.2.1 ∧ Below w.heap.size w w' ∧ Hs w (Y ++ X) w' := by
  refine enter (Hs.start w) Tryz.func20 rfl Tryz.ntmps20 rfl (sq_ (ma0 [] [1] (fun γ1 => [(2, .pointer (some ⟨γ1 0, 0, none⟩)), (4, .pointer (some ⟨γ1 1, 0, none⟩))]) (fun γ1 L => bx (γ1 1) (#[.int .i64 0, .slice none 0 0, .slice none 0 0]) 27 :: bx (γ1 0) (#[.int .i64 now, .slice p n cap, .slice pa na ca]) 27 :: L) (fun γ1 => ds_ (sq_ (at_block (sq_ ?_))))))
  have hgA := al_iff.1 hg
  have hn0 := hgA.gw.n0
  have hn1 := hgA.gw.n1
  have hl0 := hgA.gw.len
  have hl0r := hgA.rl
  rcases q2 : vcB k with _ | _
  ·
    have hgA := al_iff.1 hg
    have hn0 := hgA.gw.n0
    have hn1 := hgA.gw.n1
    have hl0 := hgA.gw.len
    have hl0r := hgA.rl
    refine ao_ (qo0 1 [] [1, 2, 4] [(7, .int .i64 k)] (cD (.bool false) (fun args w => Tryz.call50 args w) (fun w hw => by have := rvc_t k w; rw [q2] at this; exact this) (qo0 2 [] [1, 2, 4] [(6, .bool true)] (on_ (ds_ (t_ (sq_ (qa0 [(1, .go (owns 0 0 3))] [4] [(5, .int .i64 2)] (ds_ (rt (owns 0 0 3) (.tuple #[.agg #[.int .i64 0, .slice none 0 0, .slice none 0 0], .int .i64 2]) ?_))))))))))
    exact fun w' hw => by rw [stopV_arg hg q2]; exact ⟨none, 0, 0, [], none, 0, 0, [], rfl, SlO.nil, SlO.nil, hw.below, hw.sub (List.nil_sublist _)⟩
  ·
    have hgA := al_iff.1 hg
    have hn0 := hgA.gw.n0
    have hn1 := hgA.gw.n1
    have hl0 := hgA.gw.len
    have hl0r := hgA.rl
    refine ao_ (qo0 1 [] [1, 2, 4] [(7, .int .i64 k)] (cD (.bool true) (fun args w => Tryz.call50 args w) (fun w hw => by have := rvc_t k w; rw [q2] at this; exact this) (qo0 2 [] [1, 2, 4] [(6, .bool false)] (on_ (ds_ (f_ (sq_ ?_)))))))
    have hvk : 1 ≤ k ∧ k ≤ 16 := of_decide_eq_true q2
    refine ao_ (qo0 2 [(0, .go (owns 1 0 3))] [1, 2, 4] [(12, .agg #[.int .i64 now, .slice p n cap, .slice pa na ca]), (13, .int .i64 k)] ?_)
    rcases ha9 : getK Alm.vcpu rs k with _ | z9
    ·
      refine cD (.int .i64 (-1)) (fun args w => Tryz.call47 args w) (fun w hw => by have := rfind_t now p n cap ts pa na ca rs k w (hts.kept hw.below) hn (by omega) (hrs.kept hw.below) hna (by omega); rw [fd_none ha9] at this; exact this) (qo0 2 [] [1, 2, 4] [(11, .bool true)] (on_ (ds_ (t_ (sq_ (qa0 [(1, .go (owns 0 0 3))] [4] [(5, .int .i64 4)] (ds_ (rt (owns 0 0 3) (.tuple #[.agg #[.int .i64 0, .slice none 0 0, .slice none 0 0], .int .i64 4]) ?_))))))))
      exact fun w' hw => by rw [stopV_none hg q2 (lk_none hg hvk.1 hvk.2 ha9)]; exact ⟨none, 0, 0, [], none, 0, 0, [], rfl, SlO.nil, SlO.nil, hw.below, hw.sub (List.nil_sublist _)⟩
    ·
      obtain ⟨i12, hi12, hx12⟩ := fd_some hgA.rr ha9
      have hl12 := (List.getElem?_eq_some_iff.1 hx12).1
      refine cD (.int .i64 (i12 : Nat)) (fun args w => Tryz.call47 args w) (fun w hw => by have := rfind_t now p n cap ts pa na ca rs k w (hts.kept hw.below) hn (by omega) (hrs.kept hw.below) hna (by omega); rw [hi12] at this; exact this) (qo 2 [(3, .no)] [1, 2, 4] [(11, .bool false)] ([¬ (((i12 : Nat) : Int) < (0 : Int))]) (al1 (by omega)) (on_ (ds_ (f_ (at_skip (done_block (ds_ (sq_ (ao_ (qo0 2 [(0, .go (owns 1 0 3))] [4] [(17, .agg #[.int .i64 now, .slice p n cap, .slice pa na ca]), (18, .int .i64 k)] (cP (fun v L' => ∃ q_ m_ c_ Y_ q2_ m2_ c2_ X_, v = .agg #[.int .i64 now, .slice q_ m_ c_, .slice q2_ m2_ c2_] ∧ L' = List.take 2 ([bx (γ1 1) (#[.int .i64 0, .slice none 0 0, .slice none 0 0]) 27, bx (γ1 0) (#[.int .i64 now, .slice p n cap, .slice pa na ca]) 27]) ++ (Y_ ++ (X_ ++ List.drop 2 ([bx (γ1 1) (#[.int .i64 0, .slice none 0 0, .slice none 0 0]) 27, bx (γ1 0) (#[.int .i64 now, .slice p n cap, .slice pa na ca]) 27]))) ∧ SlO 42 Y_ q_ m_ c_ (wiL ts (k - 1) 0 32) ∧ SlO 32 X_ q2_ m2_ c2_ (rdrop rs k)) (fun args w => Tryz.call51 args w) (fun w hw => (without_t now p n cap ts pa na ca rs k w (hts.kept hw.below) hn (by omega) (hrs.kept hw.below) hna (by omega) (by omega) (by omega)).mono fun e w' ⟨q_, m_, c_, Y_, q2_, m2_, c2_, X_, he, h1, h2, hb, hY⟩ => ⟨_, _, he, ⟨q_, m_, c_, Y_, q2_, m2_, c2_, X_, rfl, rfl, h1, h2⟩, hw.joinT hb hY 2⟩) ?_)))))))))))
      rintro v15 L15 ⟨q15, m15, c15, Y15, p15, k15, d15, Yx15, rfl, rfl, hO15, hP15⟩
      have hm15 := hO15.len
      have hn15 := hP15.len
      refine mo0 2 [(3, .go (owns 0 0 3))] [4] (fun _ => [(5, .int .i64 0)]) (fun _ L => (L.set 0 (bx (γ1 1) (#[.int .i64 now, .slice q15 m15 c15, .slice p15 k15 d15]) 27))) (fun _ => on_ (ds_ (rt (owns 0 0 3) (.tuple #[.agg #[.int .i64 now, .slice q15 m15 c15, .slice p15 k15 d15], .int .i64 0]) ?_)))
      exact fun w' hw => by rw [stopV_ok hg q2 (lk_some hg ha9).choose_spec]; exact ⟨_, _, _, _, _, _, _, _, rfl, SlO.as hO15 (by rw [with_del hgA.gw (lk_some hg ha9).choose_spec]), hP15, hw.below, two_tails (Hs.pick [[bx (γ1 1) (#[.int .i64 now, .slice q15 m15 c15, .slice p15 k15 d15]) 27], [bx (γ1 0) (#[.int .i64 now, .slice p n cap, .slice pa na ca]) 27], Y15, Yx15] [2, 3] [0, 1] (by kernel_rfl) hw)⟩

set_option maxRecDepth 100000 in
theorem rsleep_t (now : Int) (p : Option Addr) (n cap : Nat) (ts : List Tim) (pa : Option Addr) (na ca : Nat) (rs : List Alm) (k at_ : Int) (w : World)
    (hts : Sv w p ts) (hn : n = ts.length) (hb : n ≤ 1000)
    (hrs : Sv w pa rs) (hna : na = rs.length) (hba : na ≤ 1000)
    (hg : alB now ts rs = true)
    : Calls Tryz.prog 21 #[.agg #[.int .i64 now, .slice p n cap, .slice pa na ca], .int .i64 k, .int .i64 at_] w fun e w' => ∃ q m c Y q2 m2 c2 X, e = .returned (.tuple #[.agg #[.int .i64 (sleepV now ts rs k at_).1, .slice q m c, .slice q2 m2 c2], .int .i64 (sleepV now ts rs k at_).2.2.2]) ∧ SlO 42 Y q m c (sleepV now ts rs k at_).2.1 ∧ SlO 32 X q2 m2 c2 (sleepV now ts rs k at_).2.2.1 ∧ Below w.heap.size w w' ∧ Hs w (Y ++ X) w' := by
  refine enter (Hs.start w) Tryz.func21 rfl Tryz.ntmps21 rfl (sq_ (ma0 [] [1, 2] (fun γ1 => [(3, .pointer (some ⟨γ1 0, 0, none⟩)), (6, .pointer (some ⟨γ1 1, 0, none⟩))]) (fun γ1 L => bx (γ1 1) (#[.int .i64 0, .slice none 0 0, .slice none 0 0]) 27 :: bx (γ1 0) (#[.int .i64 now, .slice p n cap, .slice pa na ca]) 27 :: L) (fun γ1 => ds_ (sq_ (sq_ ?_)))))
  have hgA := al_iff.1 hg
  have hn0 := hgA.gw.n0
  have hn1 := hgA.gw.n1
  have hl0 := hgA.gw.len
  have hl0r := hgA.rl
  rcases q2 : vcB k with _ | _
  ·
    have hgA := al_iff.1 hg
    have hn0 := hgA.gw.n0
    have hn1 := hgA.gw.n1
    have hl0 := hgA.gw.len
    have hl0r := hgA.rl
    refine ao_ (qo0 1 [] [1, 2, 3, 6] [(8, .int .i64 k)] (cD (.bool false) (fun args w => Tryz.call50 args w) (fun w hw => by have := rvc_t k w; rw [q2] at this; exact this) (qo0 7 [] [1, 2, 3, 6] [(16, .bool true)] (on_ (ds_ (t_ (sq_ (qa0 [(1, .go (owns 0 0 3))] [6] [(7, .int .i64 2)] (ds_ (rt (owns 0 0 3) (.tuple #[.agg #[.int .i64 0, .slice none 0 0, .slice none 0 0], .int .i64 2]) ?_))))))))))
    exact fun w' hw => by rw [sleepV_arg hg q2]; exact ⟨none, 0, 0, [], none, 0, 0, [], rfl, SlO.nil, SlO.nil, hw.below, hw.sub (List.nil_sublist _)⟩
  ·
    have hgA := al_iff.1 hg
    have hn0 := hgA.gw.n0
    have hn1 := hgA.gw.n1
    have hl0 := hgA.gw.len
    have hl0r := hgA.rl
    rcases q6 : decide (aheadP now at_) with _ | _
    ·
      have hgA := al_iff.1 hg
      have hn0 := hgA.gw.n0
      have hn1 := hgA.gw.n1
      have hl0 := hgA.gw.len
      have hl0r := hgA.rl
      refine ao_ (qo0 1 [] [1, 2, 3, 6] [(8, .int .i64 k)] (cD (.bool true) (fun args w => Tryz.call50 args w) (fun w hw => by have := rvc_t k w; rw [q2] at this; exact this) (qo0 4 [(4, .go (owns 1 0 3))] [1, 2, 3, 6] [(11, .bool false), (12, .agg #[.int .i64 now, .slice p n cap, .slice pa na ca]), (13, .int .i64 at_)] (cD (.bool false) (fun args w => Tryz.call48 args w) (fun w hw => by have := rahead_t now p n cap ts pa na ca rs at_ w; rw [q6] at this; exact this) (qo0 2 [] [1, 2, 3, 6] [(16, .bool true)] (on_ (ds_ (t_ (sq_ (qa0 [(1, .go (owns 0 0 3))] [6] [(7, .int .i64 2)] (ds_ (rt (owns 0 0 3) (.tuple #[.agg #[.int .i64 0, .slice none 0 0, .slice none 0 0], .int .i64 2]) ?_))))))))))))
      exact fun w' hw => by rw [sleepV_nah hg (of_decide_eq_false q6)]; exact ⟨none, 0, 0, [], none, 0, 0, [], rfl, SlO.nil, SlO.nil, hw.below, hw.sub (List.nil_sublist _)⟩
    ·
      have hgA := al_iff.1 hg
      have hn0 := hgA.gw.n0
      have hn1 := hgA.gw.n1
      have hl0 := hgA.gw.len
      have hl0r := hgA.rl
      refine ao_ (qo0 1 [] [1, 2, 3, 6] [(8, .int .i64 k)] (cD (.bool true) (fun args w => Tryz.call50 args w) (fun w hw => by have := rvc_t k w; rw [q2] at this; exact this) (qo0 4 [(4, .go (owns 1 0 3))] [1, 2, 3, 6] [(11, .bool false), (12, .agg #[.int .i64 now, .slice p n cap, .slice pa na ca]), (13, .int .i64 at_)] (cD (.bool true) (fun args w => Tryz.call48 args w) (fun w hw => by have := rahead_t now p n cap ts pa na ca rs at_ w; rw [q6] at this; exact this) (qo0 2 [] [1, 2, 3, 6] [(16, .bool false)] (on_ (ds_ (f_ (at_skip (ds_ (sq_ ?_)))))))))))
      have hvk : 1 ≤ k ∧ k ≤ 16 := of_decide_eq_true q2
      refine ao_ (qo0 1 [(0, .go (owns 1 0 3))] [1, 2, 3, 6] [(18, .agg #[.int .i64 now, .slice p n cap, .slice pa na ca])] (cP (fun v L' => ∃ q_ m_ c_ Y_ q2_ m2_ c2_ X_, v = .agg #[.int .i64 now, .slice q_ m_ c_, .slice q2_ m2_ c2_] ∧ L' = List.take 2 ([bx (γ1 1) (#[.int .i64 0, .slice none 0 0, .slice none 0 0]) 27, bx (γ1 0) (#[.int .i64 now, .slice p n cap, .slice pa na ca]) 27]) ++ (Y_ ++ (X_ ++ List.drop 2 ([bx (γ1 1) (#[.int .i64 0, .slice none 0 0, .slice none 0 0]) 27, bx (γ1 0) (#[.int .i64 now, .slice p n cap, .slice pa na ca]) 27]))) ∧ SlO 42 Y_ q_ m_ c_ ts ∧ SlO 32 X_ q2_ m2_ c2_ rs) (fun args w => Tryz.call10 args w) (fun w hw => (copy_t now p n cap ts pa na ca rs w (hts.kept hw.below) hn (by omega) (hrs.kept hw.below) hna (by omega)).mono fun e w' ⟨q_, m_, c_, Y_, q2_, m2_, c2_, X_, he, h1, h2, hb, hY⟩ => ⟨_, _, he, ⟨q_, m_, c_, Y_, q2_, m2_, c2_, X_, rfl, rfl, h1, h2⟩, hw.joinT hb hY 2⟩) ?_))
      rintro v15 L15 ⟨q15, m15, c15, Y15, p15, k15, d15, Yx15, rfl, rfl, hO15, hP15⟩
      have hm15 := hO15.len
      have hn15 := hP15.len
      refine mo0 1 [(2, .go (owns 1 0 3))] [1, 2, 3, 6] (fun _ => []) (fun _ L => (L.set 1 (bx (γ1 0) (#[.int .i64 now, .slice q15 m15 c15, .slice p15 k15 d15]) 27))) (fun _ => on_ (ds_ (sq_ (ao_ (qo 6 [(1, .go (owns 1 0 2)), (3, .fit), (4, .fit)] [3, 6] [(21, .agg #[.int .i64 now, .slice q15 m15 c15]), (24, .int .i64 ((16 + k) - 1)), (25, .int .i64 at_)] ([Fit .i64 (16 + k)] ++ ([Fit .i64 ((16 + k) - 1)])) (alA (al1 (fit64 (by omega) (by omega))) (al1 (fit64 (by omega) (by omega)))) (cP (fun v L' => ∃ q_ c_ Y_, v = .agg #[.int .i64 now, .slice q_ (wiL ts ((16 + k) - 1) at_ 32).length c_] ∧ L' = List.take 2 (bx (γ1 1) (#[.int .i64 0, .slice none 0 0, .slice none 0 0]) 27 :: bx (γ1 0) (#[.int .i64 now, .slice q15 m15 c15, .slice p15 k15 d15]) 27 :: (Y15 ++ (Yx15 ++ []))) ++ (Y_ ++ List.drop 2 (bx (γ1 1) (#[.int .i64 0, .slice none 0 0, .slice none 0 0]) 27 :: bx (γ1 0) (#[.int .i64 now, .slice q15 m15 c15, .slice p15 k15 d15]) 27 :: (Y15 ++ (Yx15 ++ [])))) ∧ SlO 42 Y_ q_ (wiL ts ((16 + k) - 1) at_ 32).length c_ (wiL ts ((16 + k) - 1) at_ 32)) (fun args w => Tryz.call52 args w) (fun w hw => (with_t now q15 m15 c15 ts ((16 + k) - 1) at_ w (hO15.atN (A := [_, _]) hw) hO15.len (by omega)).mono fun e w' ⟨q_, c_, Y_, he, hO, hb, hY⟩ => ⟨_, _, he, ⟨q_, c_, Y_, rfl, rfl, hO⟩, hw.join hb hY 2⟩) ?_))))))
      rintro v18 L18 ⟨q18, cq18, Y18, rfl, rfl, hO18⟩
      have hwl18 := wiL_len (ts := ts) (k := ((16 + k) - 1)) (at_ := at_)
      refine mo0 2 [(8, .go (owns 1 0 2))] [3, 6] (fun _ => []) (fun _ L => (L.set 1 (bx (γ1 0) (#[.int .i64 now, .slice q18 ((wiL ts ((16 + k) - 1) at_ 32).length) cq18, .slice p15 k15 d15]) 27))) (fun _ => on_ (ds_ (sq_ (ma0 [(0, .go (owns 1 0 3)), (1, .go (owns 0 0 3))] [6] (fun _ => [(7, .int .i64 0)]) (fun _ L => (L.set 0 (bx (γ1 1) (#[.int .i64 now, .slice q18 ((wiL ts ((16 + k) - 1) at_ 32).length) cq18, .slice p15 k15 d15]) 27))) (fun _ => ds_ (rt (owns 0 0 3) (.tuple #[.agg #[.int .i64 now, .slice q18 ((wiL ts ((16 + k) - 1) at_ 32).length) cq18, .slice p15 k15 d15], .int .i64 0]) ?_))))))
      exact fun w' hw => by rw [sleepV_ok hg q2 (of_decide_eq_true q6)]; exact ⟨_, _, _, _, _, _, _, _, rfl, SlO.as hO18 (by rw [show (16 : Int) + k - 1 = 15 + k from by omega, wi_put hgA.gw (by omega) (by omega) (by have hah : now < at_ ∧ at_ ≤ 1125899906842624 := of_decide_eq_true q6; omega)]), hP15, hw.below, two_tails (Hs.pick [[bx (γ1 1) (#[.int .i64 now, .slice q18 ((wiL ts ((16 + k) - 1) at_ 32).length) cq18, .slice p15 k15 d15]) 27], [bx (γ1 0) (#[.int .i64 now, .slice q18 ((wiL ts ((16 + k) - 1) at_ 32).length) cq18, .slice p15 k15 d15]) 27], Y18, Y15, Yx15] [2, 4] [0, 1, 3] (by kernel_rfl) hw)⟩

set_option maxRecDepth 100000 in
theorem rwake_t (now : Int) (p : Option Addr) (n cap : Nat) (ts : List Tim) (pa : Option Addr) (na ca : Nat) (rs : List Alm) (k : Int) (w : World)
    (hts : Sv w p ts) (hn : n = ts.length) (hb : n ≤ 1000)
    (hrs : Sv w pa rs) (hna : na = rs.length) (hba : na ≤ 1000)
    (hg : alB now ts rs = true)
    : Calls Tryz.prog 22 #[.agg #[.int .i64 now, .slice p n cap, .slice pa na ca], .int .i64 k] w fun e w' => ∃ q m c Y q2 m2 c2 X, e = .returned (.tuple #[.agg #[.int .i64 (wakeV now ts rs k).1, .slice q m c, .slice q2 m2 c2], .int .i64 (wakeV now ts rs k).2.2.2]) ∧ SlO 42 Y q m c (wakeV now ts rs k).2.1 ∧ SlO 32 X q2 m2 c2 (wakeV now ts rs k).2.2.1 ∧ Below w.heap.size w w' ∧ Hs w (Y ++ X) w' := by
  refine enter (Hs.start w) Tryz.func22 rfl Tryz.ntmps22 rfl (sq_ (ma0 [] [1] (fun γ1 => [(2, .pointer (some ⟨γ1 0, 0, none⟩)), (4, .pointer (some ⟨γ1 1, 0, none⟩))]) (fun γ1 L => bx (γ1 1) (#[.int .i64 0, .slice none 0 0, .slice none 0 0]) 27 :: bx (γ1 0) (#[.int .i64 now, .slice p n cap, .slice pa na ca]) 27 :: L) (fun γ1 => ds_ (sq_ (at_block (sq_ ?_))))))
  have hgA := al_iff.1 hg
  have hn0 := hgA.gw.n0
  have hn1 := hgA.gw.n1
  have hl0 := hgA.gw.len
  have hl0r := hgA.rl
  rcases q2 : vcB k with _ | _
  ·
    have hgA := al_iff.1 hg
    have hn0 := hgA.gw.n0
    have hn1 := hgA.gw.n1
    have hl0 := hgA.gw.len
    have hl0r := hgA.rl
    refine ao_ (qo0 1 [] [1, 2, 4] [(7, .int .i64 k)] (cD (.bool false) (fun args w => Tryz.call50 args w) (fun w hw => by have := rvc_t k w; rw [q2] at this; exact this) (qo0 2 [] [1, 2, 4] [(6, .bool true)] (on_ (ds_ (t_ (sq_ (qa0 [(1, .go (owns 0 0 3))] [4] [(5, .int .i64 2)] (ds_ (rt (owns 0 0 3) (.tuple #[.agg #[.int .i64 0, .slice none 0 0, .slice none 0 0], .int .i64 2]) ?_))))))))))
    exact fun w' hw => by rw [wakeV_arg hg q2]; exact ⟨none, 0, 0, [], none, 0, 0, [], rfl, SlO.nil, SlO.nil, hw.below, hw.sub (List.nil_sublist _)⟩
  ·
    have hgA := al_iff.1 hg
    have hn0 := hgA.gw.n0
    have hn1 := hgA.gw.n1
    have hl0 := hgA.gw.len
    have hl0r := hgA.rl
    refine ao_ (qo0 1 [] [1, 2, 4] [(7, .int .i64 k)] (cD (.bool true) (fun args w => Tryz.call50 args w) (fun w hw => by have := rvc_t k w; rw [q2] at this; exact this) (qo0 2 [] [1, 2, 4] [(6, .bool false)] (on_ (ds_ (f_ (sq_ ?_)))))))
    have hvk : 1 ≤ k ∧ k ≤ 16 := of_decide_eq_true q2
    refine ao_ (qo0 2 [(0, .go (owns 1 0 3))] [1, 2, 4] [(12, .agg #[.int .i64 now, .slice p n cap, .slice pa na ca]), (13, .int .i64 k)] ?_)
    rcases hg9 : getK Tim.id ts (15 + k) with _ | y9
    ·
      refine cD (.int .i64 0) (fun args w => Tryz.call53 args w) (fun w hw => by have := rsleeps8_t now p n cap ts pa na ca rs k w (hts.kept hw.below) hn (by omega) (hrs.kept hw.below) hna (by omega) (by omega) (by omega); rw [rsl_ok q2, atR_none hg9] at this; exact this) (qo0 2 [] [1, 2, 4] [(11, .bool true)] (on_ (ds_ (t_ (sq_ (qa0 [(1, .go (owns 0 0 3))] [4] [(5, .int .i64 4)] (ds_ (rt (owns 0 0 3) (.tuple #[.agg #[.int .i64 0, .slice none 0 0, .slice none 0 0], .int .i64 4]) ?_))))))))
      exact fun w' hw => by rw [wakeV_none hg q2 hg9]; exact ⟨none, 0, 0, [], none, 0, 0, [], rfl, SlO.nil, SlO.nil, hw.below, hw.sub (List.nil_sublist _)⟩
    ·
      have hymy9 := hgA.gw.tm y9 (getK_mem hg9).1
      refine cD (.int .i64 y9.due) (fun args w => Tryz.call53 args w) (fun w hw => by have := rsleeps8_t now p n cap ts pa na ca rs k w (hts.kept hw.below) hn (by omega) (hrs.kept hw.below) hna (by omega) (by omega) (by omega); rw [rsl_ok q2, atR_some hg9] at this; exact this) (qo 2 [(3, .no)] [1, 2, 4] [(11, .bool false)] ([¬ ((y9.due : Int) = (0 : Int))]) (al1 (by omega)) (on_ (ds_ (f_ (at_skip (done_block (ds_ (sq_ (ao_ (qo0 1 [(0, .go (owns 1 0 3))] [1, 2, 4] [(17, .agg #[.int .i64 now, .slice p n cap, .slice pa na ca])] (cP (fun v L' => ∃ q_ m_ c_ Y_ q2_ m2_ c2_ X_, v = .agg #[.int .i64 now, .slice q_ m_ c_, .slice q2_ m2_ c2_] ∧ L' = List.take 2 ([bx (γ1 1) (#[.int .i64 0, .slice none 0 0, .slice none 0 0]) 27, bx (γ1 0) (#[.int .i64 now, .slice p n cap, .slice pa na ca]) 27]) ++ (Y_ ++ (X_ ++ List.drop 2 ([bx (γ1 1) (#[.int .i64 0, .slice none 0 0, .slice none 0 0]) 27, bx (γ1 0) (#[.int .i64 now, .slice p n cap, .slice pa na ca]) 27]))) ∧ SlO 42 Y_ q_ m_ c_ ts ∧ SlO 32 X_ q2_ m2_ c2_ rs) (fun args w => Tryz.call10 args w) (fun w hw => (copy_t now p n cap ts pa na ca rs w (hts.kept hw.below) hn (by omega) (hrs.kept hw.below) hna (by omega)).mono fun e w' ⟨q_, m_, c_, Y_, q2_, m2_, c2_, X_, he, h1, h2, hb, hY⟩ => ⟨_, _, he, ⟨q_, m_, c_, Y_, q2_, m2_, c2_, X_, rfl, rfl, h1, h2⟩, hw.joinT hb hY 2⟩) ?_)))))))))))
      rintro v14 L14 ⟨q14, m14, c14, Y14, p14, k14, d14, Yx14, rfl, rfl, hO14, hP14⟩
      have hm14 := hO14.len
      have hn14 := hP14.len
      refine mo0 1 [(2, .go (owns 1 0 3))] [1, 2, 4] (fun _ => []) (fun _ L => (L.set 1 (bx (γ1 0) (#[.int .i64 now, .slice q14 m14 c14, .slice p14 k14 d14]) 27))) (fun _ => on_ (ds_ (sq_ (ao_ (qo 5 [(1, .go (owns 1 0 2)), (3, .fit), (4, .fit)] [2, 4] [(20, .agg #[.int .i64 now, .slice q14 m14 c14]), (23, .int .i64 ((16 + k) - 1))] ([Fit .i64 (16 + k)] ++ ([Fit .i64 ((16 + k) - 1)])) (alA (al1 (fit64 (by omega) (by omega))) (al1 (fit64 (by omega) (by omega)))) (cP (fun v L' => ∃ q_ c_ Y_, v = .agg #[.int .i64 now, .slice q_ (wiL ts ((16 + k) - 1) 0 32).length c_] ∧ L' = List.take 2 (bx (γ1 1) (#[.int .i64 0, .slice none 0 0, .slice none 0 0]) 27 :: bx (γ1 0) (#[.int .i64 now, .slice q14 m14 c14, .slice p14 k14 d14]) 27 :: (Y14 ++ (Yx14 ++ []))) ++ (Y_ ++ List.drop 2 (bx (γ1 1) (#[.int .i64 0, .slice none 0 0, .slice none 0 0]) 27 :: bx (γ1 0) (#[.int .i64 now, .slice q14 m14 c14, .slice p14 k14 d14]) 27 :: (Y14 ++ (Yx14 ++ [])))) ∧ SlO 42 Y_ q_ (wiL ts ((16 + k) - 1) 0 32).length c_ (wiL ts ((16 + k) - 1) 0 32)) (fun args w => Tryz.call52 args w) (fun w hw => (with_t now q14 m14 c14 ts ((16 + k) - 1) 0 w (hO14.atN (A := [_, _]) hw) hO14.len (by omega)).mono fun e w' ⟨q_, c_, Y_, he, hO, hb, hY⟩ => ⟨_, _, he, ⟨q_, c_, Y_, rfl, rfl, hO⟩, hw.join hb hY 2⟩) ?_))))))
      rintro v17 L17 ⟨q17, cq17, Y17, rfl, rfl, hO17⟩
      have hwl17 := wiL_len (ts := ts) (k := ((16 + k) - 1)) (at_ := 0)
      refine mo0 2 [(7, .go (owns 1 0 2))] [2, 4] (fun _ => []) (fun _ L => (L.set 1 (bx (γ1 0) (#[.int .i64 now, .slice q17 ((wiL ts ((16 + k) - 1) 0 32).length) cq17, .slice p14 k14 d14]) 27))) (fun _ => on_ (ds_ (sq_ (ma0 [(0, .go (owns 1 0 3)), (1, .go (owns 0 0 3))] [4] (fun _ => [(5, .int .i64 0)]) (fun _ L => (L.set 0 (bx (γ1 1) (#[.int .i64 now, .slice q17 ((wiL ts ((16 + k) - 1) 0 32).length) cq17, .slice p14 k14 d14]) 27))) (fun _ => ds_ (rt (owns 0 0 3) (.tuple #[.agg #[.int .i64 now, .slice q17 ((wiL ts ((16 + k) - 1) 0 32).length) cq17, .slice p14 k14 d14], .int .i64 0]) ?_))))))
      exact fun w' hw => by rw [wakeV_ok hg q2 hg9]; exact ⟨_, _, _, _, _, _, _, _, rfl, SlO.as hO17 (by rw [show (16 : Int) + k - 1 = 15 + k from by omega, with_del hgA.gw hg9]), hP14, hw.below, two_tails (Hs.pick [[bx (γ1 1) (#[.int .i64 now, .slice q17 ((wiL ts ((16 + k) - 1) 0 32).length) cq17, .slice p14 k14 d14]) 27], [bx (γ1 0) (#[.int .i64 now, .slice q17 ((wiL ts ((16 + k) - 1) 0 32).length) cq17, .slice p14 k14 d14]) 27], Y17, Y14, Yx14] [2, 4] [0, 1, 3] (by kernel_rfl) hw)⟩
end Go.Proofs.YtdbamgbgnpadjaaGreat

/-! Timers: time passes, as the document says. -/
namespace Go.Proofs.YtdbamgbgnpadjaaGreat
open Go Go.RowKit

set_option maxRecDepth 100000 in
theorem rpass_t (now : Int) (p : Option Addr) (n cap : Nat) (ts : List Tim) (to : Int) (w : World)
 (hts : Sv w p ts) (hn : n = ts.length) (hb : n ≤ 1000)
 : Calls Tryz.prog 54 #[.agg #[.int .i64 now, .slice p n cap], .int .i64 to] w fun e w' => ∃ q c Y q2 c2 X, e = .returned (.tuple #[.agg #[.int .i64 to, .slice q (leL ts to).length c], .slice q2 (rdueL ts to).length c2]) ∧ SlO 42 Y q (leL ts to).length c (leL ts to) ∧ SlO 42 X q2 (rdueL ts to).length c2 (rdueL ts to) ∧ Below w.heap.size w w' ∧ Hs w (Y ++ X) w' := by
 refine enter (Hs.start w) Tryz.func54 rfl Tryz.ntmps54 rfl (sq_ (ma0 [] [1] (fun γ1 => [(2, .pointer (some ⟨γ1 0, 0, none⟩)), (4, .pointer (some ⟨γ1 1, 0, none⟩))]) (fun γ1 L => bx (γ1 1) (#[.int .i64 0, .slice none 0 0]) 24 :: bx (γ1 0) (#[.int .i64 now, .slice p n cap]) 24 :: L) (fun γ1 => ds_ (sq_ (ma0 [(3, .go (owns 0 0 2))] [1, 2, 4] (fun γ2 => [(6, .pointer (some ⟨γ2 0, 0, none⟩))]) (fun γ2 L => bx (γ2 0) (#[.int .i64 to, .slice none 0 0]) 24 :: L) (fun γ2 => ds_ (sq_ (qa0 [] [1, 2, 4, 6] [(7, .slice none 0 0)] (ds_ (sq_ (sq_ (qa0 [] [1, 2, 4, 6, 7] [(8, .int .i64 0)] (ds_ (at_block (at_loop (α := Nat × List Ob × Option Addr × Nat × Nat × List Ob × Option Addr × Nat × Nat) [1, 2, 4, 6, 7, 8] (fun ⟨j, Yo, po, nu, co, Yd, pd, nd, cd⟩ => [(1, .int .i64 to), (2, .pointer (some ⟨γ1 0, 0, none⟩)), (4, .pointer (some ⟨γ1 1, 0, none⟩)), (6, .pointer (some ⟨γ2 0, 0, none⟩)), (7, .slice pd nd cd), (8, .int .i64 ((j : Nat)))]) (fun ⟨j, Yo, po, nu, co, Yd, pd, nd, cd⟩ => bx (γ2 0) (#[.int .i64 to, .slice po nu co]) 24 :: bx (γ1 1) (#[.int .i64 0, .slice none 0 0]) 24 :: bx (γ1 0) (#[.int .i64 now, .slice p n cap]) 24 :: (Yo ++ (Yd ++ []))) (fun ⟨j, Yo, po, nu, co, Yd, pd, nd, cd⟩ => j ≤ n ∧ nu ≤ j ∧ nd ≤ j ∧ SlO 42 Yo po nu co ((ts.take j).flatMap (leF to)) ∧ SlO 42 Yd pd nd cd ((ts.take j).foldl (rstep to) [])) (fun ⟨j, Yo, po, nu, co, Yd, pd, nd, cd⟩ => n - j) (0, [], none, 0, 0, [], none, 0, 0) (by kernel_rfl) rfl ⟨Nat.zero_le _, Nat.le_refl _, Nat.le_refl _, by rw [List.take_zero]; exact SlO.nil, by rw [List.take_zero]; exact SlO.nil⟩ ?_)))))))))))))))
 rintro ⟨j, Yo, po, nu, co, Yd, pd, nd, cd⟩
 rintro ⟨hj, hnu, hnd, hO, hP⟩
 have hld := hP.len
 refine sq_ (sq_ ?_)
 by_cases q6 : ((j : Nat) : Int) < ((n : Nat) : Int)
 ·
  refine qa [(2, .go (owns 2 1 1)), (4, .yes)] [1, 2, 4, 6, 7, 8] [(19, .bool true)] ([((j : Nat) : Int) < ((n : Nat) : Int)]) (al1 q6) (ds_ (t_ (at_skip (ds_ (sq_ (at_block (sq_ ?_)))))))
  obtain ⟨b9, o9, rfl⟩ := hts.pos (i := j) (by omega)
  obtain ⟨x11, hx11⟩ := get_some (l := ts) (m := j) (by omega)
  refine ma [(1, .go (owns 2 1 1)), (3, .at b9 o9 j), (4, .go (outs b9 (o9 + j * 2) [.int .i64 x11.id, .int .i64 x11.due])), (6, .go (owns 0 0 2))] [1, 2, 4, 6, 7, 8] (fun γ12 => [(9, .pointer (some ⟨γ12 0, 0, none⟩))]) (fun γ12 L => bx (γ12 0) (#[.int .i64 x11.id, .int .i64 x11.due]) 42 :: L) (fun γ12 => [(some ⟨b9, o9, none⟩ : Option Addr) = some ⟨b9, o9, none⟩, ((j : Nat)) = ((j : Nat) : Int), j < n] ++ (cellsP w b9 (o9 + j * 2) [.int .i64 x11.id, .int .i64 x11.due])) (fun γ12 => (alA (al2 rfl (al2 rfl (al1 (by omega)))) (rd_pre (hts.get hx11) _ rfl))) (fun γ12 => ds_ (sq_ (sq_ ?_)))
  by_cases q14 : (x11.due : Int) > (to : Int)
  ·
   refine qa [(1, .go (owns 0 1 1)), (3, .yes)] [1, 2, 4, 6, 7, 8, 9] [(30, .bool true)] ([(x11.due : Int) > (to : Int)]) (al1 q14) (ds_ (t_ (sq_ (ao_ (mo0 4 [(1, .go (owns 1 1 1)), (2, .go (owns 0 0 2))] [1, 2, 4, 6, 7, 8] (fun γ16 => [(32, .slice po nu co), (34, .slice (some ⟨γ16 0, 0, none⟩) 1 1)]) (fun γ16 L => bx (γ16 0) (#[.int .i64 x11.id, .int .i64 x11.due]) 42 :: L) (fun γ16 => ops_append (α := Tim) [bx (γ16 0) (#[.int .i64 x11.id, .int .i64 x11.due]) 42, bx (γ12 0) (#[.int .i64 x11.id, .int .i64 x11.due]) 42, bx (γ2 0) (#[.int .i64 to, .slice po nu co]) 24, bx (γ1 1) (#[.int .i64 0, .slice none 0 0]) 24, bx (γ1 0) (#[.int .i64 now, .slice (some ⟨b9, o9, none⟩) n cap]) 24] Yo ((Yd ++ [])) (.refl _) rfl (by kernel_rfl) (by kernel_rfl) (p := po) (n := nu) (cap := co) (m := 1) (yv := .slice (some ⟨γ16 0, 0, none⟩) 1 1) (by kernel_rfl) (by kernel_rfl) (T := 42) (by_ := 16) (by kernel_rfl) (((ts.take j).flatMap (leF to))) ([⟨x11.id, x11.due⟩]) hO (fun w hw => src_svn Tryz.underlying22 (sv_row (hw.row 0 rfl) (by rfl)) (by rfl)) (by rfl) (by have hmx : maxLen = 9223372036854775807 := rfl; omega) (by have hmx : maxLen = 9223372036854775807 := rfl; omega) (fun Y17 p17 cap17 hO17 => mo0 2 [(6, .go (owns 2 1 1))] [1, 2, 4, 6, 7, 8] (fun _ => []) (fun _ L => (L.set 2 (bx (γ2 0) (#[.int .i64 to, .slice p17 (nu + 1) cap17]) 24))) (fun _ => on_ (ds_ (at_leave _ rfl (ds_ (qa [(1, .fit)] [1, 2, 4, 6, 7] [(8, .int .i64 ((j + 1 : Nat)))] ([Fit .i64 ((j + 1 : Nat))]) (al1 (fit64 (by omega) (by omega))) (Done.pick [[bx (γ16 0) (#[.int .i64 x11.id, .int .i64 x11.due]) 42], [bx (γ12 0) (#[.int .i64 x11.id, .int .i64 x11.due]) 42], [bx (γ2 0) (#[.int .i64 to, .slice p17 (nu + 1) cap17]) 24], [bx (γ1 1) (#[.int .i64 0, .slice none 0 0]) 24], [bx (γ1 0) (#[.int .i64 now, .slice (some ⟨b9, o9, none⟩) n cap]) 24], Y17, Yd] [2, 3, 4, 5, 6] [0, 1] (bx (γ2 0) (#[.int .i64 to, .slice p17 (nu + 1) cap17]) 24 :: bx (γ1 1) (#[.int .i64 0, .slice none 0 0]) 24 :: bx (γ1 0) (#[.int .i64 now, .slice (some ⟨b9, o9, none⟩) n cap]) 24 :: (Y17 ++ (Yd ++ []))) (by kernel_rfl) rfl rfl ?_)))))))))))))
   exact dr [1, 2, 4, 6, 7, 8] (j + 1, Y17, p17, (nu + 1), cap17, Yd, pd, nd, cd) ⟨by omega, by omega, by omega, by rw [gath_onT hx11 (leF_yes q14)]; exact hO17, by rw [rdue_on hx11, rstep_no q14]; exact hP⟩
  ·
   refine qa [(1, .go (owns 0 1 1)), (3, .no)] [1, 2, 4, 6, 7, 8, 9] [(30, .bool false)] ([¬ ((x11.due : Int) > (to : Int))]) (al1 q14) (ds_ (f_ (at_skip (ds_ (sq_ (qa0 [] [1, 2, 4, 6, 7, 8, 9] [(10, .slice none 0 0)] (ds_ (sq_ (qa0 [] [1, 2, 4, 6, 7, 8, 9, 10] [(11, .bool false)] (ds_ (sq_ (sq_ (qa0 [] [1, 2, 4, 6, 7, 8, 9, 10, 11] [(12, .int .i64 0)] (ds_ (at_block (at_loop (α := Nat × Bool × List Tim × List Ob × Option Addr × Nat × Nat) [1, 2, 4, 6, 7, 8, 9, 10, 11, 12] (fun ⟨i, bb, nx, Yn, pn, nn, cn⟩ => [(1, .int .i64 to), (2, .pointer (some ⟨γ1 0, 0, none⟩)), (4, .pointer (some ⟨γ1 1, 0, none⟩)), (6, .pointer (some ⟨γ2 0, 0, none⟩)), (7, .slice pd nd cd), (8, .int .i64 ((j : Nat))), (9, .pointer (some ⟨γ12 0, 0, none⟩)), (10, .slice pn nn cn), (11, .bool bb), (12, .int .i64 ((i : Nat)))]) (fun ⟨i, bb, nx, Yn, pn, nn, cn⟩ => bx (γ12 0) (#[.int .i64 x11.id, .int .i64 x11.due]) 42 :: bx (γ2 0) (#[.int .i64 to, .slice po nu co]) 24 :: bx (γ1 1) (#[.int .i64 0, .slice none 0 0]) 24 :: bx (γ1 0) (#[.int .i64 now, .slice (some ⟨b9, o9, none⟩) n cap]) 24 :: (Yn ++ (Yo ++ (Yd ++ [])))) (fun ⟨i, bb, nx, Yn, pn, nn, cn⟩ => i ≤ nd ∧ nn ≤ i + 1 ∧ InsI x11 ((ts.take j).foldl (rstep to) []) nx i bb ∧ SlO 42 Yn pn nn cn nx) (fun ⟨i, bb, nx, Yn, pn, nn, cn⟩ => nd - i) (0, false, [], [], none, 0, 0) (by kernel_rfl) rfl ⟨Nat.zero_le _, Nat.zero_le _, insI_start, SlO.nil⟩ ?_))))))))))))))))
   rintro ⟨i, bb, nx, Yn, pn, nn, cn⟩
   rintro ⟨hi, hnn, hI, hN⟩
   refine sq_ (sq_ ?_)
   by_cases q25 : ((i : Nat) : Int) < ((nd : Nat) : Int)
   ·
    refine qa [(3, .yes)] [1, 2, 4, 6, 7, 8, 9, 10, 11, 12] [(40, .bool true)] ([((i : Nat) : Int) < ((nd : Nat) : Int)]) (al1 q25) (ds_ (t_ (at_skip (ds_ (sq_ (at_block (sq_ (sq_ ?_))))))))
    rcases q28 : bb with _ | _
    ·
     refine At.pick [[bx (γ12 0) (#[.int .i64 x11.id, .int .i64 x11.due]) 42], [bx (γ2 0) (#[.int .i64 to, .slice po nu co]) 24], [bx (γ1 1) (#[.int .i64 0, .slice none 0 0]) 24], [bx (γ1 0) (#[.int .i64 now, .slice (some ⟨b9, o9, none⟩) n cap]) 24], Yn, Yo, Yd] [0, 1, 2, 3, 6, 4, 5] [] (bx (γ12 0) (#[.int .i64 x11.id, .int .i64 x11.due]) 42 :: bx (γ2 0) (#[.int .i64 to, .slice po nu co]) 24 :: bx (γ1 1) (#[.int .i64 0, .slice none 0 0]) 24 :: bx (γ1 0) (#[.int .i64 now, .slice (some ⟨b9, o9, none⟩) n cap]) 24 :: (Yd ++ (Yn ++ (Yo ++ [])))) (by kernel_rfl) rfl rfl ?_
     have hln30 := hP.len
     obtain ⟨g30, cs30, rfl, rfl, hOw30⟩ := hP.rowOf (i := i) (by omega)
     obtain ⟨x32, hx32⟩ := get_some (l := ((ts.take j).foldl (rstep to) [])) (m := i) (by omega)
     by_cases q34 : (x32.due : Int) > (x11.due : Int)
     ·
      refine cq [(5, .at g30 0 i), (7, .go (ownps 4 (0 + i * 2 + 1) [.int .i64 x32.due])), (9, .go (owns 0 1 1)), (10, .yes)] [1, 2, 4, 6, 7, 8, 9, 10, 11, 12] [(54, .bool true)] ([(some ⟨g30, 0, none⟩ : Option Addr) = some ⟨g30, 0, none⟩, ((i : Nat)) = ((i : Nat) : Int), i < nd] ++ (acellsP cs30 (0 + i * 2 + 1) [.int .i64 x32.due] ++ ([(x32.due : Int) > (x11.due : Int)]))) rfl (by kernel_rfl) (by kernel_rfl) (by kernel_rfl) (alA (al2 rfl (al2 rfl (al1 (by omega)))) (alA (rda_part ((hOw30.rdx hP.len hx32)) 1 _ rfl) (al1 q34))) (ds_ (t_ (sq_ (ao_ (mo0 3 [(1, .go (owns 0 0 2))] [1, 2, 4, 6, 7, 8, 9, 12] (fun γ36 => [(55, .slice pn nn cn), (57, .slice (some ⟨γ36 0, 0, none⟩) 1 1)]) (fun γ36 L => bx (γ36 0) (#[.int .i64 x11.id, .int .i64 x11.due]) 42 :: L) (fun γ36 => ops_append (α := Tim) [bx (γ36 0) (#[.int .i64 x11.id, .int .i64 x11.due]) 42, bx (γ12 0) (#[.int .i64 x11.id, .int .i64 x11.due]) 42, bx (γ2 0) (#[.int .i64 to, .slice po nu co]) 24, bx (γ1 1) (#[.int .i64 0, .slice none 0 0]) 24, bx (γ1 0) (#[.int .i64 now, .slice (some ⟨b9, o9, none⟩) n cap]) 24, bx g30 cs30 42] Yn ((Yo ++ [])) (.refl _) rfl (by kernel_rfl) (by kernel_rfl) (p := pn) (n := nn) (cap := cn) (m := 1) (yv := .slice (some ⟨γ36 0, 0, none⟩) 1 1) (by kernel_rfl) (by kernel_rfl) (T := 42) (by_ := 16) (by kernel_rfl) nx ([⟨x11.id, x11.due⟩]) hN (fun w hw => src_svn Tryz.underlying22 (sv_row (hw.row 0 rfl) (by rfl)) (by rfl)) (by rfl) (by have hmx : maxLen = 9223372036854775807 := rfl; omega) (by have hmx : maxLen = 9223372036854775807 := rfl; omega) (fun Y37 p37 cap37 hO37 => qo0 1 [] [1, 2, 4, 6, 7, 8, 9, 12] [(10, .slice p37 (nn + 1) cap37)] (on_ (ds_ (qa0 [] [1, 2, 4, 6, 7, 8, 9, 10, 12] [(11, .bool true)] (ds_ (ao_ (mo 6 [(3, .at g30 0 i), (4, .go (ownps 5 (0 + i * 2) [.int .i64 x32.id, .int .i64 x32.due]))] [1, 2, 4, 6, 7, 8, 9, 11, 12] (fun γ40 => [(59, .slice p37 (nn + 1) cap37), (64, .slice (some ⟨γ40 0, 0, none⟩) 1 1)]) (fun γ40 L => bx (γ40 0) (#[.int .i64 x32.id, .int .i64 x32.due]) 42 :: L) (fun γ40 => [(some ⟨g30, 0, none⟩ : Option Addr) = some ⟨g30, 0, none⟩, ((i : Nat)) = ((i : Nat) : Int), i < nd] ++ (acellsP cs30 (0 + i * 2) [.int .i64 x32.id, .int .i64 x32.due])) (fun γ40 => (alA (al2 rfl (al2 rfl (al1 (by omega)))) (rda_pre ((hOw30.rdx hP.len hx32)) _ rfl))) (fun γ40 => ops_append (α := Tim) [bx (γ40 0) (#[.int .i64 x32.id, .int .i64 x32.due]) 42, bx (γ36 0) (#[.int .i64 x11.id, .int .i64 x11.due]) 42, bx (γ12 0) (#[.int .i64 x11.id, .int .i64 x11.due]) 42, bx (γ2 0) (#[.int .i64 to, .slice po nu co]) 24, bx (γ1 1) (#[.int .i64 0, .slice none 0 0]) 24, bx (γ1 0) (#[.int .i64 now, .slice (some ⟨b9, o9, none⟩) n cap]) 24, bx g30 cs30 42] Y37 ((Yo ++ [])) (.refl _) rfl (by kernel_rfl) (by kernel_rfl) (p := p37) (n := (nn + 1)) (cap := cap37) (m := 1) (yv := .slice (some ⟨γ40 0, 0, none⟩) 1 1) (by kernel_rfl) (by kernel_rfl) (T := 42) (by_ := 16) (by kernel_rfl) ((nx ++ [⟨x11.id, x11.due⟩])) ([⟨x32.id, x32.due⟩]) hO37 (fun w hw => src_svn Tryz.underlying22 (sv_row (hw.row 0 rfl) (by rfl)) (by rfl)) (by rfl) (by have hmx : maxLen = 9223372036854775807 := rfl; omega) (by have hmx : maxLen = 9223372036854775807 := rfl; omega) (fun Y41 p41 cap41 hO41 => ?_)))))))))))))))
      refine qo0 1 [] [1, 2, 4, 6, 7, 8, 9, 11, 12] [(10, .slice p41 ((nn + 1) + 1) cap41)] (on_ (done_block (ds_ (qa [(1, .fit)] [1, 2, 4, 6, 7, 8, 9, 10, 11] [(12, .int .i64 ((i + 1 : Nat)))] ([Fit .i64 ((i + 1 : Nat))]) (al1 (fit64 (by omega) (by omega))) (Done.pick [[bx (γ40 0) (#[.int .i64 x32.id, .int .i64 x32.due]) 42], [bx (γ36 0) (#[.int .i64 x11.id, .int .i64 x11.due]) 42], [bx (γ12 0) (#[.int .i64 x11.id, .int .i64 x11.due]) 42], [bx (γ2 0) (#[.int .i64 to, .slice po nu co]) 24], [bx (γ1 1) (#[.int .i64 0, .slice none 0 0]) 24], [bx (γ1 0) (#[.int .i64 now, .slice (some ⟨b9, o9, none⟩) n cap]) 24], [bx g30 cs30 42], Y41, Yo] [2, 3, 4, 5, 7, 8, 6] [0, 1] (bx (γ12 0) (#[.int .i64 x11.id, .int .i64 x11.due]) 42 :: bx (γ2 0) (#[.int .i64 to, .slice po nu co]) 24 :: bx (γ1 1) (#[.int .i64 0, .slice none 0 0]) 24 :: bx (γ1 0) (#[.int .i64 now, .slice (some ⟨b9, o9, none⟩) n cap]) 24 :: (Y41 ++ (Yo ++ ([bx g30 cs30 42])))) (by kernel_rfl) rfl rfl ?_)))))
      have hIq := hI
      rw [q28] at hIq
      have hll := insI_len0 hIq
      have hnl := hN.len
      exact dr [1, 2, 4, 6, 7, 8, 9, 10, 11, 12] (i + 1, true, (((nx ++ [⟨x11.id, x11.due⟩]) ++ [⟨x32.id, x32.due⟩])), Y41, p41, ((nn + 1) + 1), cap41) ⟨by omega, by omega, insI_here hIq hx32 q34, hO41⟩
     ·
      refine cq [(5, .at g30 0 i), (7, .go (ownps 4 (0 + i * 2 + 1) [.int .i64 x32.due])), (9, .go (owns 0 1 1)), (10, .no)] [1, 2, 4, 6, 7, 8, 9, 10, 11, 12] [(54, .bool false)] ([(some ⟨g30, 0, none⟩ : Option Addr) = some ⟨g30, 0, none⟩, ((i : Nat)) = ((i : Nat) : Int), i < nd] ++ (acellsP cs30 (0 + i * 2 + 1) [.int .i64 x32.due] ++ ([¬ ((x32.due : Int) > (x11.due : Int))]))) rfl (by kernel_rfl) (by kernel_rfl) (by kernel_rfl) (alA (al2 rfl (al2 rfl (al1 (by omega)))) (alA (rda_part ((hOw30.rdx hP.len hx32)) 1 _ rfl) (al1 q34))) (ds_ (f_ (at_skip (ds_ (ao_ (mo 6 [(3, .at g30 0 i), (4, .go (ownps 4 (0 + i * 2) [.int .i64 x32.id, .int .i64 x32.due]))] [1, 2, 4, 6, 7, 8, 9, 11, 12] (fun γ45 => [(59, .slice pn nn cn), (64, .slice (some ⟨γ45 0, 0, none⟩) 1 1)]) (fun γ45 L => bx (γ45 0) (#[.int .i64 x32.id, .int .i64 x32.due]) 42 :: L) (fun γ45 => [(some ⟨g30, 0, none⟩ : Option Addr) = some ⟨g30, 0, none⟩, ((i : Nat)) = ((i : Nat) : Int), i < nd] ++ (acellsP cs30 (0 + i * 2) [.int .i64 x32.id, .int .i64 x32.due])) (fun γ45 => (alA (al2 rfl (al2 rfl (al1 (by omega)))) (rda_pre ((hOw30.rdx hP.len hx32)) _ rfl))) (fun γ45 => ops_append (α := Tim) [bx (γ45 0) (#[.int .i64 x32.id, .int .i64 x32.due]) 42, bx (γ12 0) (#[.int .i64 x11.id, .int .i64 x11.due]) 42, bx (γ2 0) (#[.int .i64 to, .slice po nu co]) 24, bx (γ1 1) (#[.int .i64 0, .slice none 0 0]) 24, bx (γ1 0) (#[.int .i64 now, .slice (some ⟨b9, o9, none⟩) n cap]) 24, bx g30 cs30 42] Yn ((Yo ++ [])) (.refl _) rfl (by kernel_rfl) (by kernel_rfl) (p := pn) (n := nn) (cap := cn) (m := 1) (yv := .slice (some ⟨γ45 0, 0, none⟩) 1 1) (by kernel_rfl) (by kernel_rfl) (T := 42) (by_ := 16) (by kernel_rfl) nx ([⟨x32.id, x32.due⟩]) hN (fun w hw => src_svn Tryz.underlying22 (sv_row (hw.row 0 rfl) (by rfl)) (by rfl)) (by rfl) (by have hmx : maxLen = 9223372036854775807 := rfl; omega) (by have hmx : maxLen = 9223372036854775807 := rfl; omega) (fun Y46 p46 cap46 hO46 => qo0 1 [] [1, 2, 4, 6, 7, 8, 9, 11, 12] [(10, .slice p46 (nn + 1) cap46)] (on_ (done_block (ds_ (qa [(1, .fit)] [1, 2, 4, 6, 7, 8, 9, 10, 11] [(12, .int .i64 ((i + 1 : Nat)))] ([Fit .i64 ((i + 1 : Nat))]) (al1 (fit64 (by omega) (by omega))) (Done.pick [[bx (γ45 0) (#[.int .i64 x32.id, .int .i64 x32.due]) 42], [bx (γ12 0) (#[.int .i64 x11.id, .int .i64 x11.due]) 42], [bx (γ2 0) (#[.int .i64 to, .slice po nu co]) 24], [bx (γ1 1) (#[.int .i64 0, .slice none 0 0]) 24], [bx (γ1 0) (#[.int .i64 now, .slice (some ⟨b9, o9, none⟩) n cap]) 24], [bx g30 cs30 42], Y46, Yo] [1, 2, 3, 4, 6, 7, 5] [0] (bx (γ12 0) (#[.int .i64 x11.id, .int .i64 x11.due]) 42 :: bx (γ2 0) (#[.int .i64 to, .slice po nu co]) 24 :: bx (γ1 1) (#[.int .i64 0, .slice none 0 0]) 24 :: bx (γ1 0) (#[.int .i64 now, .slice (some ⟨b9, o9, none⟩) n cap]) 24 :: (Y46 ++ (Yo ++ ([bx g30 cs30 42])))) (by kernel_rfl) rfl rfl ?_)))))))))))))
      have hIq := hI
      rw [q28] at hIq
      have hll := insI_len0 hIq
      have hnl := hN.len
      exact dr [1, 2, 4, 6, 7, 8, 9, 10, 11, 12] (i + 1, false, ((nx ++ [⟨x32.id, x32.due⟩])), Y46, p46, (nn + 1), cap46) ⟨by omega, by omega, insI_same hIq hx32 q34, hO46⟩
    ·
     refine cq [] [1, 2, 4, 6, 7, 8, 9, 10, 11, 12] [(54, .bool false)] ([]) rfl (by kernel_rfl) (by kernel_rfl) (by kernel_rfl) al0 (ds_ (f_ (at_skip (ds_ (At.pick [[bx (γ12 0) (#[.int .i64 x11.id, .int .i64 x11.due]) 42], [bx (γ2 0) (#[.int .i64 to, .slice po nu co]) 24], [bx (γ1 1) (#[.int .i64 0, .slice none 0 0]) 24], [bx (γ1 0) (#[.int .i64 now, .slice (some ⟨b9, o9, none⟩) n cap]) 24], Yn, Yo, Yd] [0, 1, 2, 3, 6, 4, 5] [] (bx (γ12 0) (#[.int .i64 x11.id, .int .i64 x11.due]) 42 :: bx (γ2 0) (#[.int .i64 to, .slice po nu co]) 24 :: bx (γ1 1) (#[.int .i64 0, .slice none 0 0]) 24 :: bx (γ1 0) (#[.int .i64 now, .slice (some ⟨b9, o9, none⟩) n cap]) 24 :: (Yd ++ (Yn ++ (Yo ++ [])))) (by kernel_rfl) rfl rfl ?_)))))
     have hln51 := hP.len
     obtain ⟨g51, cs51, rfl, rfl, hOw51⟩ := hP.rowOf (i := i) (by omega)
     obtain ⟨x53, hx53⟩ := get_some (l := ((ts.take j).foldl (rstep to) [])) (m := i) (by omega)
     refine ao_ (mo 6 [(3, .at g51 0 i), (4, .go (ownps 4 (0 + i * 2) [.int .i64 x53.id, .int .i64 x53.due]))] [1, 2, 4, 6, 7, 8, 9, 11, 12] (fun γ54 => [(59, .slice pn nn cn), (64, .slice (some ⟨γ54 0, 0, none⟩) 1 1)]) (fun γ54 L => bx (γ54 0) (#[.int .i64 x53.id, .int .i64 x53.due]) 42 :: L) (fun γ54 => [(some ⟨g51, 0, none⟩ : Option Addr) = some ⟨g51, 0, none⟩, ((i : Nat)) = ((i : Nat) : Int), i < nd] ++ (acellsP cs51 (0 + i * 2) [.int .i64 x53.id, .int .i64 x53.due])) (fun γ54 => (alA (al2 rfl (al2 rfl (al1 (by omega)))) (rda_pre ((hOw51.rdx hP.len hx53)) _ rfl))) (fun γ54 => ops_append (α := Tim) [bx (γ54 0) (#[.int .i64 x53.id, .int .i64 x53.due]) 42, bx (γ12 0) (#[.int .i64 x11.id, .int .i64 x11.due]) 42, bx (γ2 0) (#[.int .i64 to, .slice po nu co]) 24, bx (γ1 1) (#[.int .i64 0, .slice none 0 0]) 24, bx (γ1 0) (#[.int .i64 now, .slice (some ⟨b9, o9, none⟩) n cap]) 24, bx g51 cs51 42] Yn ((Yo ++ [])) (.refl _) rfl (by kernel_rfl) (by kernel_rfl) (p := pn) (n := nn) (cap := cn) (m := 1) (yv := .slice (some ⟨γ54 0, 0, none⟩) 1 1) (by kernel_rfl) (by kernel_rfl) (T := 42) (by_ := 16) (by kernel_rfl) nx ([⟨x53.id, x53.due⟩]) hN (fun w hw => src_svn Tryz.underlying22 (sv_row (hw.row 0 rfl) (by rfl)) (by rfl)) (by rfl) (by have hmx : maxLen = 9223372036854775807 := rfl; omega) (by have hmx : maxLen = 9223372036854775807 := rfl; omega) (fun Y55 p55 cap55 hO55 => qo0 1 [] [1, 2, 4, 6, 7, 8, 9, 11, 12] [(10, .slice p55 (nn + 1) cap55)] (on_ (done_block (ds_ (qa [(1, .fit)] [1, 2, 4, 6, 7, 8, 9, 10, 11] [(12, .int .i64 ((i + 1 : Nat)))] ([Fit .i64 ((i + 1 : Nat))]) (al1 (fit64 (by omega) (by omega))) (Done.pick [[bx (γ54 0) (#[.int .i64 x53.id, .int .i64 x53.due]) 42], [bx (γ12 0) (#[.int .i64 x11.id, .int .i64 x11.due]) 42], [bx (γ2 0) (#[.int .i64 to, .slice po nu co]) 24], [bx (γ1 1) (#[.int .i64 0, .slice none 0 0]) 24], [bx (γ1 0) (#[.int .i64 now, .slice (some ⟨b9, o9, none⟩) n cap]) 24], [bx g51 cs51 42], Y55, Yo] [1, 2, 3, 4, 6, 7, 5] [0] (bx (γ12 0) (#[.int .i64 x11.id, .int .i64 x11.due]) 42 :: bx (γ2 0) (#[.int .i64 to, .slice po nu co]) 24 :: bx (γ1 1) (#[.int .i64 0, .slice none 0 0]) 24 :: bx (γ1 0) (#[.int .i64 now, .slice (some ⟨b9, o9, none⟩) n cap]) 24 :: (Y55 ++ (Yo ++ ([bx g51 cs51 42])))) (by kernel_rfl) rfl rfl ?_))))))))
     have hIq := hI
     rw [q28] at hIq
     exact dr [1, 2, 4, 6, 7, 8, 9, 10, 11, 12] (i + 1, true, ((nx ++ [⟨x53.id, x53.due⟩])), Y55, p55, (nn + 1), cap55) ⟨by omega, by omega, insI_on hIq hx53, hO55⟩
   ·
    refine qa [(3, .no)] [1, 2, 4, 6, 7, 8, 9, 10, 11, 12] [(40, .bool false)] ([¬ (((i : Nat) : Int) < ((nd : Nat) : Int))]) (al1 q25) (ds_ (f_ (at_leave _ rfl (ds_ (sq_ (sq_ ?_))))))
    rcases q60 : bb with _ | _
    ·
     refine qa0 [] [1, 2, 4, 6, 8, 9, 10] [(67, .bool true)] (ds_ (t_ (ao_ (mo0 3 [(1, .go (owns 0 0 2))] [1, 2, 4, 6, 8] (fun γ62 => [(68, .slice pn nn cn), (70, .slice (some ⟨γ62 0, 0, none⟩) 1 1)]) (fun γ62 L => bx (γ62 0) (#[.int .i64 x11.id, .int .i64 x11.due]) 42 :: L) (fun γ62 => ops_append (α := Tim) [bx (γ62 0) (#[.int .i64 x11.id, .int .i64 x11.due]) 42, bx (γ12 0) (#[.int .i64 x11.id, .int .i64 x11.due]) 42, bx (γ2 0) (#[.int .i64 to, .slice po nu co]) 24, bx (γ1 1) (#[.int .i64 0, .slice none 0 0]) 24, bx (γ1 0) (#[.int .i64 now, .slice (some ⟨b9, o9, none⟩) n cap]) 24] Yn ((Yo ++ (Yd ++ []))) (.refl _) rfl (by kernel_rfl) (by kernel_rfl) (p := pn) (n := nn) (cap := cn) (m := 1) (yv := .slice (some ⟨γ62 0, 0, none⟩) 1 1) (by kernel_rfl) (by kernel_rfl) (T := 42) (by_ := 16) (by kernel_rfl) nx ([⟨x11.id, x11.due⟩]) hN (fun w hw => src_svn Tryz.underlying22 (sv_row (hw.row 0 rfl) (by rfl)) (by rfl)) (by rfl) (by have hmx : maxLen = 9223372036854775807 := rfl; omega) (by have hmx : maxLen = 9223372036854775807 := rfl; omega) (fun Y63 p63 cap63 hO63 => qo0 1 [] [1, 2, 4, 6, 8] [(10, .slice p63 (nn + 1) cap63)] (on_ (ds_ (qa0 [] [1, 2, 4, 6, 8] [(7, .slice p63 (nn + 1) cap63)] (done_block (ds_ (qa [(1, .fit)] [1, 2, 4, 6, 7] [(8, .int .i64 ((j + 1 : Nat)))] ([Fit .i64 ((j + 1 : Nat))]) (al1 (fit64 (by omega) (by omega))) (Done.pick [[bx (γ62 0) (#[.int .i64 x11.id, .int .i64 x11.due]) 42], [bx (γ12 0) (#[.int .i64 x11.id, .int .i64 x11.due]) 42], [bx (γ2 0) (#[.int .i64 to, .slice po nu co]) 24], [bx (γ1 1) (#[.int .i64 0, .slice none 0 0]) 24], [bx (γ1 0) (#[.int .i64 now, .slice (some ⟨b9, o9, none⟩) n cap]) 24], Y63, Yo, Yd] [2, 3, 4, 6, 5] [0, 1, 7] (bx (γ2 0) (#[.int .i64 to, .slice po nu co]) 24 :: bx (γ1 1) (#[.int .i64 0, .slice none 0 0]) 24 :: bx (γ1 0) (#[.int .i64 now, .slice (some ⟨b9, o9, none⟩) n cap]) 24 :: (Yo ++ (Y63 ++ []))) (by kernel_rfl) rfl rfl ?_)))))))))))))
     have hIq := hI
     rw [q60] at hIq
     have hll := insI_len0 hIq
     have hnl := hN.len
     exact dr [1, 2, 4, 6, 7, 8] (j + 1, Yo, po, nu, co, Y63, p63, (nn + 1), cap63) ⟨by omega, by omega, by omega, by rw [gath_onT hx11 (leF_no q14), List.append_nil]; exact hO, by rw [rdue_on hx11, rstep_yes q14, ← insI_end0 (t := x11) hIq (by omega)]; exact hO63⟩
    ·
     refine qa0 [] [1, 2, 4, 6, 8, 9, 10] [(67, .bool false)] (ds_ (f_ (at_skip (ds_ (qa0 [] [1, 2, 4, 6, 8] [(7, .slice pn nn cn)] (done_block (ds_ (qa [(1, .fit)] [1, 2, 4, 6, 7] [(8, .int .i64 ((j + 1 : Nat)))] ([Fit .i64 ((j + 1 : Nat))]) (al1 (fit64 (by omega) (by omega))) (Done.pick [[bx (γ12 0) (#[.int .i64 x11.id, .int .i64 x11.due]) 42], [bx (γ2 0) (#[.int .i64 to, .slice po nu co]) 24], [bx (γ1 1) (#[.int .i64 0, .slice none 0 0]) 24], [bx (γ1 0) (#[.int .i64 now, .slice (some ⟨b9, o9, none⟩) n cap]) 24], Yn, Yo, Yd] [1, 2, 3, 5, 4] [0, 6] (bx (γ2 0) (#[.int .i64 to, .slice po nu co]) 24 :: bx (γ1 1) (#[.int .i64 0, .slice none 0 0]) 24 :: bx (γ1 0) (#[.int .i64 now, .slice (some ⟨b9, o9, none⟩) n cap]) 24 :: (Yo ++ (Yn ++ []))) (by kernel_rfl) rfl rfl ?_)))))))))
     have hIq := hI
     rw [q60] at hIq
     exact dr [1, 2, 4, 6, 7, 8] (j + 1, Yo, po, nu, co, Yn, pn, nn, cn) ⟨by omega, by omega, by omega, by rw [gath_onT hx11 (leF_no q14), List.append_nil]; exact hO, by rw [rdue_on hx11, rstep_yes q14, ← insI_end1 hIq (by omega)]; exact hN⟩
 ·
  refine qa [(2, .go (owns 2 1 1)), (4, .no)] [1, 2, 4, 6, 7, 8] [(19, .bool false)] ([¬ (((j : Nat) : Int) < ((n : Nat) : Int))]) (al1 q6) (ds_ (f_ (at_leave _ rfl (ds_ (sq_ (ma0 [(0, .go (owns 0 0 2)), (2, .go (owns 1 0 2))] [4] (fun _ => [(5, .slice pd nd cd)]) (fun _ L => (L.set 1 (bx (γ1 1) (#[.int .i64 to, .slice po nu co]) 24))) (fun _ => ds_ (rt (owns 1 0 2) (.tuple #[.agg #[.int .i64 to, .slice po nu co], .slice pd nd cd]) ?_))))))))
  rw [List.take_of_length_le (by omega)] at hO hP
  have e1 : nu = (leL ts to).length := hO.len
  have e2 : nd = (rdueL ts to).length := hP.len
  have hO1 := hO
  have hP1 := hP
  rw [e1] at hO1
  rw [e2] at hP1
  exact fun w' hw => ⟨po, co, Yo, pd, cd, Yd, by rw [e1, e2], hO1, hP1, hw.below, two_tails (Hs.pick [[bx (γ2 0) (#[.int .i64 to, .slice po nu co]) 24], [bx (γ1 1) (#[.int .i64 to, .slice po nu co]) 24], [bx (γ1 0) (#[.int .i64 now, .slice p n cap]) 24], Yo, Yd] [3, 4] [0, 1, 2] (by kernel_rfl) hw)⟩
end Go.Proofs.YtdbamgbgnpadjaaGreat
