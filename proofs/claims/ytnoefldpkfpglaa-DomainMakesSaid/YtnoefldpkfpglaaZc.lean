/- Texts of this proof, one behind the other. -/
import Derived.Test.YtnoefldpkfpglaaProg
import Derived.Test.YtnoefldpkfpglaaZb
/-! Functions of package slices. -/
namespace Go.Proofs.Ytnoefldpkfpglaa
open Go Go.RowKit
set_option maxRecDepth 100000 in
theorem overlaps_findD : Extern.find Try.f80 = some (Extern.SlicesOverlaps.overlaps Try.f80.params Try.f80.resultTypes) := by kernel_rfl
set_option maxRecDepth 100000 in
theorem overlaps_nextD : Extern.findNext Try.f80 = none := by kernel_rfl
theorem overlaps_noD {w : World} {g1 o1 g2 o2 m n c1 c2 : Nat} {cs1 cs2 : Array Value} {T1 T2 : TypeId} (h1 : w.heap[g1]? = some (.cells cs1 T1 (0, 0))) (h2 : w.heap[g2]? = some (.cells cs2 T2 (0, 0))) (hne : g1 ≠ g2) :
    (callFunc 80 #[.slice (some ⟨g1, o1, none⟩) m c1, .slice (some ⟨g2, o2, none⟩) n c2]).run Try.prog w = .ok (.value (.bool false)) w := by
  have hf := Try.func80
  have hn : (Try.f80.name == "runtime.NumGoroutine") = false := by kernel_rfl
  have hb : Try.f80.body.isNone = true := by kernel_rfl
  have hp : Try.f80.params[0]? = some 22 := by kernel_rfl
  have hu := Try.underlying22
  obtain ⟨ht', inf, z', hi, hz', _, hks, hby⟩ := elemB_spec (show elemB Try.prog 22 32 4 32 = true by kernel_rfl)
  have hs : inf.size = 4 := by omega
  have s1 : w.shape? g1 = some (T1, cs1.size) := by simp [World.shape?, h1]
  have s2 : w.shape? g2 = some (T2, cs2.size) := by simp [World.shape?, h2]
  have f1 : ∀ j, w.frozen? ⟨g1, j, none⟩ = false := fun j => froz_own h1 j
  have f2 : ∀ j, w.frozen? ⟨g2, j, none⟩ = false := fun j => froz_own h2 j
  have run1 : ∀ args, (callFunc 80 args).run Try.prog w = ((Extern.SlicesOverlaps.overlaps Try.f80.params Try.f80.resultTypes args).run Try.prog w).andThen fun v w' => .ok (.value v) w' := fun args => by
    simp only [callFunc, Sem.run_bind, run_program, Result.andThen_ok, hf, hn, hb, overlaps_nextD, overlaps_findD]
    simp [mark, Sem.run, Sem.run_bind]
  rw [run1]
  have hne' : (g1 == g2) = false := by simpa using hne
  have hs' : (do let i ← typeInfo 32; pure i.size : Sem Nat).run Try.prog w = .ok 4 w := by simp [typeInfo, hi, hs]
  delta Extern.SlicesOverlaps.overlaps
  conv => lhs; arg 1; arg 2; whnf
  have hu' : Try.prog.underlying (Try.f80.params[0]'(by decide)) = some (.slice 32) := by kernel_rfl
  have sb : ∀ (α β : Type) (x : Sem α) (f : α → Sem β) (P : Program) (w : World), (x.bind f).run P w = (x.run P w).andThen fun a w' => (f a).run P w' := fun α β x f P w => Sem.run_bind' P x f w
  by_cases hm : m = 0 ∨ n = 0 ∨ inf.size = 0
  · simp [Sem.run, sb, hu', sizeOf, typeInfo, hi, hm]
  · simp [Sem.run, sb, hu', sizeOf, typeInfo, hi, hm, bne, hne', hne, noView, viewAt, mayBeOne, stringish, shape, frozen, s1, s2, f1, f2]

set_option maxRecDepth 100000 in
theorem insertD_d (w0 : World) (X Y : List Ob) (p : Option Addr) (n cap : Nat) (l : List Dom) (i gv : Nat) (cv : Array Value) (m : Nat) (vl : List Dom) (w : World)
    (hH : Hs w0 (bx gv cv 32 :: (Y ++ X)) w) (hO : SlO 32 Y p n cap l) (hcv : cv.toList = vl.flatMap Enc.enc) (hm : m = vl.length) (hm0 : 0 < m) (hi : i ≤ n) (hb : n ≤ 1000) (hmb : m ≤ 1000)
    : Calls Try.prog 62 #[.slice p n cap, .int .i64 (i : Nat), .slice (some ⟨gv, 0, none⟩) m m] w fun e w' => ∃ q capq Y', e = .returned (.slice q (n + m) capq) ∧ SlO 32 Y' q (n + m) capq (l.take i ++ vl ++ l.drop i) ∧ Hs w0 (Y' ++ X) w' := by
  have hn := hO.len
  refine enter hH Try.func62 rfl Try.ntmps62 rfl (sq_ (qa0 [] [0, 1, 2] [] (ds_ (sq_ (qa [(2, .sl (.slice (if cap = i then p else p.map (·.add (i * 4))) (n - i) (cap - i)))] [0, 1, 2] [] ([SlRun Try.prog 22 (.slice p n cap) (some (.int .i64 ((i : Nat)))) none none (.slice (if cap = i then p else p.map (·.add (i * 4))) (n - i) (cap - i))]) (al1 (slE_cut (P := Try.prog) (T := 22) (e := 32) (k := 4) (by_ := 32) (by kernel_rfl) hi)) (ds_ (sq_ (qa0 [] [0, 1, 2] [(7, .int .i64 ((m : Nat)))] (ds_ (sq_ (sq_ (qa [(1, .no)] [0, 1, 2, 7] [(16, .bool false)] ([¬ (((m : Nat) : Int) = (0 : Int))]) (al1 ((by omega))) (ds_ (f_ (at_skip (ds_ (sq_ (qa0 [] [0, 1, 2, 7] [(8, .int .i64 ((n : Nat)))] (ds_ (sq_ (sq_ ?_)))))))))))))))))))))
  by_cases q7 : ((i : Nat) : Int) = ((n : Nat) : Int)
  ·
    refine qa [(2, .yes)] [0, 1, 2, 7, 8] [(22, .bool true)] ([((i : Nat) : Int) = ((n : Nat) : Int)]) (al1 q7) (ds_ (t_ (sq_ (ao_ (qo0 2 [] [] [(23, .slice p n cap), (24, .slice (some ⟨gv, 0, none⟩) m m)] (ops_append (α := Dom) [bx gv cv 32] Y X (.refl _) rfl (by kernel_rfl) (by kernel_rfl) (p := p) (n := n) (cap := cap) (m := m) (yv := .slice (some ⟨gv, 0, none⟩) m m) (by kernel_rfl) (by kernel_rfl) (T := 32) (by_ := 32) (by kernel_rfl) l vl hO (fun w hw => src_svn Try.underlying22 (sv_row (hw.row 0 rfl) hcv) hm) hm (by have hmx : maxLen = 9223372036854775807 := rfl; omega) (by have hmx : maxLen = 9223372036854775807 := rfl; omega) (fun Y10 p10 cap10 hO10 => qo0 1 [] [] [(6, .slice p10 (n + m) cap10)] (on_ (ds_ (rt ([]) (.slice p10 (n + m) cap10) ?_))))))))))
    exact fun w' hw => ⟨_, _, _, rfl, by rw [show i = l.length by omega, List.take_length, List.drop_length, List.append_nil]; exact hO10, hw.tailN 1⟩
  ·
    refine qa [(2, .no)] [0, 1, 2, 7, 8] [(22, .bool false)] ([¬ (((i : Nat) : Int) = ((n : Nat) : Int))]) (al1 q7) (ds_ (f_ (at_skip (ds_ (sq_ (sq_ ?_))))))
    obtain ⟨g, cs, rfl, rfl, hOw⟩ := hO.rowOf (i := i) (by omega)
    have hcap := hOw.le
    have hcs := hOw.csz
    have hmax := hOw.max
    by_cases q15 : ((n + m : Nat) : Int) > ((cap : Nat) : Int)
    ·
      refine qa [(2, .fit), (5, .yes)] [0, 1, 2, 7, 8] [(31, .bool true)] ([Fit .i64 ((n + m : Nat))] ++ ([((n + m : Nat) : Int) > ((cap : Nat) : Int)])) (alA (al1 (fit64 (by omega) (by omega))) (al1 q15)) (ds_ (t_ (sq_ (ao_ (qo 8 [(2, .sl (.slice (some ⟨g, 0, none⟩) i cap)), (5, .fit), (7, .is [] (.int .i64 ((n + m - i : Nat))))] [0, 1, 2, 7] [(34, .slice (some ⟨g, 0, none⟩) i cap), (39, .int .i64 ((n + m - i : Nat)))] ([SlRun Try.prog 22 (.slice (some ⟨g, 0, none⟩) n cap) none (some (.int .i64 ((i : Nat)))) none (.slice (some ⟨g, 0, none⟩) i cap)] ++ ([Fit .i64 ((n + m : Nat))] ++ ([Value.int .i64 (IntKind.i64.wrap ((((n + m : Nat)) : Int) - ((i : Nat) : Int))) = .int .i64 ((n + m - i : Nat))]))) (alA (al1 (slE_hi (P := Try.prog) (T := 22) (e := 32) (k := 4) (by_ := 32) (by kernel_rfl) (h := i) (by omega))) (alA (al1 (fit64 (by omega) (by omega))) (al1 (by rw [wrap_fit (fit64 (by omega) (by omega))]; congr 1; omega)))) (ops_appendZ rfl (by kernel_rfl) (by kernel_rfl) (p := some ⟨g, 0, none⟩) (m := i) (cap := cap) (n := n + m - i) ((cs.toList.drop 0).take (i * 4)) (by kernel_rfl) (by kernel_rfl) (T := 32) (ks := 4) (by_ := 32) (by kernel_rfl) Try.underlying3 (by decide) (olds_len hcs (by omega)) (fun w hw => first_row (hw.row 1 rfl) (by rw [hcs, Nat.zero_add]; exact Nat.mul_le_mul_right _ (by omega))) (by omega) (by omega) (by simp only [maxLen]; omega) (by omega) (fun g2 c2 cap2 hc2 hle2 hmax2 hpre2 => qo0 1 [] [0, 1, 2, 7] [(9, .slice (some ⟨g2, 0, none⟩) (i + (n + m - i)) cap2)] (on_ (ds_ (sq_ (ao_ (qo 4 [(2, .sl (.slice (some ⟨g2, 0 + i * 4, none⟩) (i + (n + m - i) - i) (cap2 - i)))] [0, 1, 7, 9] [(43, .slice (some ⟨g2, 0 + i * 4, none⟩) (i + (n + m - i) - i) (cap2 - i)), (44, .slice (some ⟨gv, 0, none⟩) m m)] ([SlRun Try.prog 22 (.slice (some ⟨g2, 0, none⟩) (i + (n + m - i)) cap2) (some (.int .i64 ((i : Nat)))) none none (.slice (some ⟨g2, 0 + i * 4, none⟩) (i + (n + m - i) - i) (cap2 - i))]) (al1 (slE_lo (P := Try.prog) (T := 22) (e := 32) (k := 4) (by_ := 32) (by kernel_rfl) (lo := i) (by omega) (by omega))) (ops_copy 0 rfl (by kernel_rfl) (by kernel_rfl) (g := g2) (of := (0 + i * 4)) (dn := (i + (n + m - i) - i)) (dc := (cap2 - i)) (m := m) (cnt := m) (c := c2) (yv := (.slice (some ⟨gv, 0, none⟩) m m)) (vl.flatMap Enc.enc) (by kernel_rfl) (by kernel_rfl) (T := 32) (ks := 4) (by_ := 32) (by kernel_rfl) (T' := 32) (by kernel_rfl) len_slice (by omega) (fun w hw => by have := first_sv (P := Try.prog) (w := w) (p := some ⟨gv, 0, none⟩) (m := m) (cap := m) (cnt := m) (sv_row (hw.row 1 rfl) hcv) (by omega); rw [List.take_of_length_le (by omega)] at this; exact this) (by rw [flat_len, ← hm]; exact mul_room (c := cap2) (by omega) hc2) (flat_one vl) ?_)))))))))))))
      refine on_ (ds_ (sq_ ?_))
      refine at_any (by kernel_rfl) ?_
      refine tk (m := 3) [0, 1, 2, 3, 5, 6] [(3, .fit)] [9] [(46, .slice (some ⟨g2, 0, none⟩) (i + (n + m - i)) cap2), (49, .int .i64 ((i + m : Nat))), (51, .slice (some ⟨g, 0, none⟩) n cap), (52, .int .i64 ((i : Nat)))] ([Fit .i64 ((i + m : Nat))]) #[true, true, true, true, false, true, true, false, false] (al1 (fit64 (by omega) (by omega))) ?_
      refine any_cut 1 #[true, true, true, true, true, true, true, true, false] ([(9, .slice (some ⟨g2, 0, none⟩) (i + (n + m - i)) cap2), (50, .slice (some ⟨g2, 0 + (i + m) * 4, none⟩) (i + (n + m - i) - (i + m)) (cap2 - (i + m))), (53, .slice (some ⟨g, 0 + i * 4, none⟩) (n - i) (cap - i))]) (bx g2 ((sets c2 (0 + i * 4) (vl.flatMap Enc.enc))) 32 :: bx gv cv 32 :: bx g cs 32 :: X) ?_ (fun hm => ?_)
      rotate_left
      ·
        refine any_fork [4, 7] (by kernel_rfl) (by simp) (each_cons _ rfl ?_ (each_cons _ rfl ?_ (each_nil)))
        ·
          refine qo 1 [(4, .sl (.slice (some ⟨g2, 0 + (i + m) * 4, none⟩) (i + (n + m - i) - (i + m)) (cap2 - (i + m))))] [9, 51, 52] [(50, .slice (some ⟨g2, 0 + (i + m) * 4, none⟩) (i + (n + m - i) - (i + m)) (cap2 - (i + m)))] ([SlRun Try.prog 22 (.slice (some ⟨g2, 0, none⟩) (i + (n + m - i)) cap2) (some (.int .i64 ((i + m : Nat)))) none none (.slice (some ⟨g2, 0 + (i + m) * 4, none⟩) (i + (n + m - i) - (i + m)) (cap2 - (i + m)))]) (al1 (slE_lo (P := Try.prog) (T := 22) (e := 32) (k := 4) (by_ := 32) (by kernel_rfl) (lo := i + m) (by omega) (by omega))) ?_
          refine od_ ?_
          refine a1 7 rfl ?_
          refine qo 1 [(7, .sl (.slice (some ⟨g, 0 + i * 4, none⟩) (n - i) (cap - i)))] [9, 50] [(53, .slice (some ⟨g, 0 + i * 4, none⟩) (n - i) (cap - i))] ([SlRun Try.prog 22 (.slice (some ⟨g, 0, none⟩) n cap) (some (.int .i64 ((i : Nat)))) none none (.slice (some ⟨g, 0 + i * 4, none⟩) (n - i) (cap - i))]) (al1 (slE_lo (P := Try.prog) (T := 22) (e := 32) (k := 4) (by_ := 32) (by kernel_rfl) (lo := i) (by omega) (by omega))) ?_
          refine od_ ?_
          exact any_weak hm [9, 50, 53] (by kernel_rfl) rfl rfl rfl
        ·
          refine qo 1 [(7, .sl (.slice (some ⟨g, 0 + i * 4, none⟩) (n - i) (cap - i)))] [9, 46, 49] [(53, .slice (some ⟨g, 0 + i * 4, none⟩) (n - i) (cap - i))] ([SlRun Try.prog 22 (.slice (some ⟨g, 0, none⟩) n cap) (some (.int .i64 ((i : Nat)))) none none (.slice (some ⟨g, 0 + i * 4, none⟩) (n - i) (cap - i))]) (al1 (slE_lo (P := Try.prog) (T := 22) (e := 32) (k := 4) (by_ := 32) (by kernel_rfl) (lo := i) (by omega) (by omega))) ?_
          refine od_ ?_
          refine a1 4 rfl ?_
          refine qo 1 [(4, .sl (.slice (some ⟨g2, 0 + (i + m) * 4, none⟩) (i + (n + m - i) - (i + m)) (cap2 - (i + m))))] [9, 53] [(50, .slice (some ⟨g2, 0 + (i + m) * 4, none⟩) (i + (n + m - i) - (i + m)) (cap2 - (i + m)))] ([SlRun Try.prog 22 (.slice (some ⟨g2, 0, none⟩) (i + (n + m - i)) cap2) (some (.int .i64 ((i + m : Nat)))) none none (.slice (some ⟨g2, 0 + (i + m) * 4, none⟩) (i + (n + m - i) - (i + m)) (cap2 - (i + m)))]) (al1 (slE_lo (P := Try.prog) (T := 22) (e := 32) (k := 4) (by_ := 32) (by kernel_rfl) (lo := i + m) (by omega) (by omega))) ?_
          refine od_ ?_
          exact any_weak hm [9, 50, 53] (by kernel_rfl) rfl rfl rfl
      refine a1 8 rfl ?_
      refine ops_copy 0 rfl (by kernel_rfl) (by kernel_rfl) (g := g2) (of := (0 + (i + m) * 4)) (dn := (i + (n + m - i) - (i + m))) (dc := (cap2 - (i + m))) (m := (n - i)) (cnt := (n - i)) (c := ((sets c2 (0 + i * 4) (vl.flatMap Enc.enc)))) (yv := (.slice (some ⟨g, 0 + i * 4, none⟩) (n - i) (cap - i))) ((cs.toList.drop (0 + i * 4)).take ((n - i) * 4)) (by kernel_rfl) (by kernel_rfl) (T := 32) (ks := 4) (by_ := 32) (by kernel_rfl) (T' := 32) (by kernel_rfl) len_slice (by omega) (fun w hw => first_row (hw.row 2 rfl) (row_room hOw (by omega))) (by rw [sets_size]; exact copy_room (c := cap2) hOw (by omega) (by omega) hc2) (row_one hOw (by omega)) ?_
      refine od_ ?_
      refine any_nil (by kernel_rfl) ?_
      refine ds_ (sq_ (qa0 [] [] [(6, .slice (some ⟨g2, 0, none⟩) (i + (n + m - i)) cap2)] (ds_ (rt ([]) (.slice (some ⟨g2, 0, none⟩) (i + (n + m - i)) cap2) ?_))))
      exact fun w' hw => ⟨some ⟨g2, 0, none⟩, cap2, [_], by rw [show i + (n + m - i) = n + m by omega], .inr ⟨_, _, rfl, rfl, by simp; omega, ins_grow hOw (by omega) hm (by omega) hc2 (by omega) hmax2 hpre2⟩, hw.sub (.cons_cons _ (.cons _ (.cons _ (.refl _))))⟩
    ·
      refine qa [(2, .fit), (5, .no)] [0, 1, 2, 7, 8] [(31, .bool false)] ([Fit .i64 ((n + m : Nat))] ++ ([¬ (((n + m : Nat) : Int) > ((cap : Nat) : Int))])) (alA (al1 (fit64 (by omega) (by omega))) (al1 q15)) (ds_ (f_ (at_skip (ds_ (sq_ (qa [(3, .fit), (4, .sl (.slice (some ⟨g, 0, none⟩) (n + m) cap))] [1, 2, 7, 8] [(0, .slice (some ⟨g, 0, none⟩) (n + m) cap)] ([Fit .i64 ((n + m : Nat))] ++ ([SlRun Try.prog 22 (.slice (some ⟨g, 0, none⟩) n cap) none (some (.int .i64 ((n + m : Nat)))) none (.slice (some ⟨g, 0, none⟩) (n + m) cap)])) (alA (al1 (fit64 (by omega) (by omega))) (al1 (slE_hi (P := Try.prog) (T := 22) (e := 32) (k := 4) (by_ := 32) (by kernel_rfl) (h := n + m) (by omega)))) (ds_ (sq_ (sq_ (ao_ (qo 6 [(4, .fit), (5, .sl (.slice (some ⟨g, 0 + (i + m) * 4, none⟩) (n + m - (i + m)) (cap - (i + m))))] [0, 1, 2, 7, 8] [(61, .slice (some ⟨gv, 0, none⟩) m m), (66, .slice (some ⟨g, 0 + (i + m) * 4, none⟩) (n + m - (i + m)) (cap - (i + m)))] ([Fit .i64 ((i + m : Nat))] ++ ([SlRun Try.prog 22 (.slice (some ⟨g, 0, none⟩) (n + m) cap) (some (.int .i64 ((i + m : Nat)))) none none (.slice (some ⟨g, 0 + (i + m) * 4, none⟩) (n + m - (i + m)) (cap - (i + m)))])) (alA (al1 (fit64 (by omega) (by omega))) (al1 (slE_lo (P := Try.prog) (T := 22) (e := 32) (k := 4) (by_ := 32) (by kernel_rfl) (lo := i + m) (by omega) (by omega)))) (ops_ext (f := 80) (args := #[.slice (some ⟨gv, 0, none⟩) m m, .slice (some ⟨g, 0 + (i + m) * 4, none⟩) (n + m - (i + m)) (cap - (i + m))]) (.bool false) (by kernel_rfl) (by kernel_rfl) (by kernel_rfl) (fun w hw => overlaps_noD (hw.row 0 rfl) (hw.row 1 rfl) (apart_two hw (a := 0) (b := 1) rfl rfl (by decide))) (qo0 1 [] [0, 1, 2, 7, 8] [(68, .bool true)] (on_ (ds_ (t_ (sq_ ?_)))))))))))))))))
      refine at_any (by kernel_rfl) ?_
      refine tk (m := 3) [0, 1, 2, 3, 5, 6] [(3, .fit)] [0, 1, 2] [(69, .slice (some ⟨g, 0, none⟩) (n + m) cap), (72, .int .i64 ((i + m : Nat))), (74, .slice (some ⟨g, 0, none⟩) (n + m) cap), (75, .int .i64 ((i : Nat)))] ([Fit .i64 ((i + m : Nat))]) #[true, true, true, true, false, true, true, false, false] (al1 (fit64 (by omega) (by omega))) ?_
      refine any_cut 1 #[true, true, true, true, true, true, true, true, false] ([(0, .slice (some ⟨g, 0, none⟩) (n + m) cap), (1, .int .i64 ((i : Nat))), (2, .slice (some ⟨gv, 0, none⟩) m m), (73, .slice (some ⟨g, 0 + (i + m) * 4, none⟩) (n + m - (i + m)) (cap - (i + m))), (76, .slice (some ⟨g, 0 + i * 4, none⟩) (n + m - i) (cap - i))]) (bx gv cv 32 :: bx g cs 32 :: X) ?_ (fun hm => ?_)
      rotate_left
      ·
        refine any_fork [4, 7] (by kernel_rfl) (by simp) (each_cons _ rfl ?_ (each_cons _ rfl ?_ (each_nil)))
        ·
          refine qo 1 [(4, .sl (.slice (some ⟨g, 0 + (i + m) * 4, none⟩) (n + m - (i + m)) (cap - (i + m))))] [0, 1, 2, 74, 75] [(73, .slice (some ⟨g, 0 + (i + m) * 4, none⟩) (n + m - (i + m)) (cap - (i + m)))] ([SlRun Try.prog 22 (.slice (some ⟨g, 0, none⟩) (n + m) cap) (some (.int .i64 ((i + m : Nat)))) none none (.slice (some ⟨g, 0 + (i + m) * 4, none⟩) (n + m - (i + m)) (cap - (i + m)))]) (al1 (slE_lo (P := Try.prog) (T := 22) (e := 32) (k := 4) (by_ := 32) (by kernel_rfl) (lo := i + m) (by omega) (by omega))) ?_
          refine od_ ?_
          refine a1 7 rfl ?_
          refine qo 1 [(7, .sl (.slice (some ⟨g, 0 + i * 4, none⟩) (n + m - i) (cap - i)))] [0, 1, 2, 73] [(76, .slice (some ⟨g, 0 + i * 4, none⟩) (n + m - i) (cap - i))] ([SlRun Try.prog 22 (.slice (some ⟨g, 0, none⟩) (n + m) cap) (some (.int .i64 ((i : Nat)))) none none (.slice (some ⟨g, 0 + i * 4, none⟩) (n + m - i) (cap - i))]) (al1 (slE_lo (P := Try.prog) (T := 22) (e := 32) (k := 4) (by_ := 32) (by kernel_rfl) (lo := i) (by omega) (by omega))) ?_
          refine od_ ?_
          exact any_weak hm [0, 1, 2, 73, 76] (by kernel_rfl) rfl rfl rfl
        ·
          refine qo 1 [(7, .sl (.slice (some ⟨g, 0 + i * 4, none⟩) (n + m - i) (cap - i)))] [0, 1, 2, 69, 72] [(76, .slice (some ⟨g, 0 + i * 4, none⟩) (n + m - i) (cap - i))] ([SlRun Try.prog 22 (.slice (some ⟨g, 0, none⟩) (n + m) cap) (some (.int .i64 ((i : Nat)))) none none (.slice (some ⟨g, 0 + i * 4, none⟩) (n + m - i) (cap - i))]) (al1 (slE_lo (P := Try.prog) (T := 22) (e := 32) (k := 4) (by_ := 32) (by kernel_rfl) (lo := i) (by omega) (by omega))) ?_
          refine od_ ?_
          refine a1 4 rfl ?_
          refine qo 1 [(4, .sl (.slice (some ⟨g, 0 + (i + m) * 4, none⟩) (n + m - (i + m)) (cap - (i + m))))] [0, 1, 2, 76] [(73, .slice (some ⟨g, 0 + (i + m) * 4, none⟩) (n + m - (i + m)) (cap - (i + m)))] ([SlRun Try.prog 22 (.slice (some ⟨g, 0, none⟩) (n + m) cap) (some (.int .i64 ((i + m : Nat)))) none none (.slice (some ⟨g, 0 + (i + m) * 4, none⟩) (n + m - (i + m)) (cap - (i + m)))]) (al1 (slE_lo (P := Try.prog) (T := 22) (e := 32) (k := 4) (by_ := 32) (by kernel_rfl) (lo := i + m) (by omega) (by omega))) ?_
          refine od_ ?_
          exact any_weak hm [0, 1, 2, 73, 76] (by kernel_rfl) rfl rfl rfl
      refine a1 8 rfl ?_
      refine ops_copy 1 rfl (by kernel_rfl) (by kernel_rfl) (g := g) (of := (0 + (i + m) * 4)) (dn := (n + m - (i + m))) (dc := (cap - (i + m))) (m := (n + m - i)) (cnt := (n - i)) (c := cs) (yv := (.slice (some ⟨g, 0 + i * 4, none⟩) (n + m - i) (cap - i))) ((cs.toList.drop (0 + i * 4)).take ((n - i) * 4)) (by kernel_rfl) (by kernel_rfl) (T := 32) (ks := 4) (by_ := 32) (by kernel_rfl) (T' := 32) (by kernel_rfl) len_slice (by omega) (fun w hw => first_row (hw.row 1 rfl) (row_room hOw (by omega))) (copy_room (c := cap) hOw (by omega) (by omega) hcs) (row_one hOw (by omega)) ?_
      refine od_ ?_
      refine any_nil (by kernel_rfl) ?_
      refine ds_ (sq_ (ao_ (qo 4 [(2, .sl (.slice (some ⟨g, 0 + i * 4, none⟩) (n + m - i) (cap - i)))] [0] [(80, .slice (some ⟨g, 0 + i * 4, none⟩) (n + m - i) (cap - i)), (81, .slice (some ⟨gv, 0, none⟩) m m)] ([SlRun Try.prog 22 (.slice (some ⟨g, 0, none⟩) (n + m) cap) (some (.int .i64 ((i : Nat)))) none none (.slice (some ⟨g, 0 + i * 4, none⟩) (n + m - i) (cap - i))]) (al1 (slE_lo (P := Try.prog) (T := 22) (e := 32) (k := 4) (by_ := 32) (by kernel_rfl) (lo := i) (by omega) (by omega))) (ops_copy 1 rfl (by kernel_rfl) (by kernel_rfl) (g := g) (of := (0 + i * 4)) (dn := (n + m - i)) (dc := (cap - i)) (m := m) (cnt := m) (c := ((sets cs (0 + (i + m) * 4) ((cs.toList.drop (0 + i * 4)).take ((n - i) * 4))))) (yv := (.slice (some ⟨gv, 0, none⟩) m m)) (vl.flatMap Enc.enc) (by kernel_rfl) (by kernel_rfl) (T := 32) (ks := 4) (by_ := 32) (by kernel_rfl) (T' := 32) (by kernel_rfl) len_slice (by omega) (fun w hw => by have := first_sv (P := Try.prog) (w := w) (p := some ⟨gv, 0, none⟩) (m := m) (cap := m) (cnt := m) (sv_row (hw.row 0 rfl) hcv) (by omega); rw [List.take_of_length_le (by omega)] at this; exact this) (by rw [flat_len, ← hm, sets_size]; exact mul_room (c := cap) (by omega) hcs) (flat_one vl) (on_ (ds_ (sq_ (qa0 [] [] [(6, .slice (some ⟨g, 0, none⟩) (n + m) cap)] (ds_ (rt ([]) (.slice (some ⟨g, 0, none⟩) (n + m) cap) ?_))))))))))
      exact fun w' hw => ⟨_, _, [_], rfl, .inr ⟨_, _, rfl, rfl, by simp; omega, ins_room hOw (by omega) hm (by omega) (by omega)⟩, hw.sub (.cons _ (.refl _))⟩
set_option maxRecDepth 100000 in
theorem overlaps_findV : Extern.find Try.f76 = some (Extern.SlicesOverlaps.overlaps Try.f76.params Try.f76.resultTypes) := by kernel_rfl
set_option maxRecDepth 100000 in
theorem overlaps_nextV : Extern.findNext Try.f76 = none := by kernel_rfl
theorem overlaps_noV {w : World} {g1 o1 g2 o2 m n c1 c2 : Nat} {cs1 cs2 : Array Value} {T1 T2 : TypeId} (h1 : w.heap[g1]? = some (.cells cs1 T1 (0, 0))) (h2 : w.heap[g2]? = some (.cells cs2 T2 (0, 0))) (hne : g1 ≠ g2) :
    (callFunc 76 #[.slice (some ⟨g1, o1, none⟩) m c1, .slice (some ⟨g2, o2, none⟩) n c2]).run Try.prog w = .ok (.value (.bool false)) w := by
  have hf := Try.func76
  have hn : (Try.f76.name == "runtime.NumGoroutine") = false := by kernel_rfl
  have hb : Try.f76.body.isNone = true := by kernel_rfl
  have hp : Try.f76.params[0]? = some 23 := by kernel_rfl
  have hu := Try.underlying23
  obtain ⟨ht', inf, z', hi, hz', _, hks, hby⟩ := elemB_spec (show elemB Try.prog 23 43 4 24 = true by kernel_rfl)
  have hs : inf.size = 4 := by omega
  have s1 : w.shape? g1 = some (T1, cs1.size) := by simp [World.shape?, h1]
  have s2 : w.shape? g2 = some (T2, cs2.size) := by simp [World.shape?, h2]
  have f1 : ∀ j, w.frozen? ⟨g1, j, none⟩ = false := fun j => froz_own h1 j
  have f2 : ∀ j, w.frozen? ⟨g2, j, none⟩ = false := fun j => froz_own h2 j
  have run1 : ∀ args, (callFunc 76 args).run Try.prog w = ((Extern.SlicesOverlaps.overlaps Try.f76.params Try.f76.resultTypes args).run Try.prog w).andThen fun v w' => .ok (.value v) w' := fun args => by
    simp only [callFunc, Sem.run_bind, run_program, Result.andThen_ok, hf, hn, hb, overlaps_nextV, overlaps_findV]
    simp [mark, Sem.run, Sem.run_bind]
  rw [run1]
  have hne' : (g1 == g2) = false := by simpa using hne
  have hs' : (do let i ← typeInfo 43; pure i.size : Sem Nat).run Try.prog w = .ok 4 w := by simp [typeInfo, hi, hs]
  delta Extern.SlicesOverlaps.overlaps
  conv => lhs; arg 1; arg 2; whnf
  have hu' : Try.prog.underlying (Try.f76.params[0]'(by decide)) = some (.slice 43) := by kernel_rfl
  have sb : ∀ (α β : Type) (x : Sem α) (f : α → Sem β) (P : Program) (w : World), (x.bind f).run P w = (x.run P w).andThen fun a w' => (f a).run P w' := fun α β x f P w => Sem.run_bind' P x f w
  by_cases hm : m = 0 ∨ n = 0 ∨ inf.size = 0
  · simp [Sem.run, sb, hu', sizeOf, typeInfo, hi, hm]
  · simp [Sem.run, sb, hu', sizeOf, typeInfo, hi, hm, bne, hne', hne, noView, viewAt, mayBeOne, stringish, shape, frozen, s1, s2, f1, f2]

set_option maxRecDepth 100000 in
theorem insertV_d (w0 : World) (X Y : List Ob) (p : Option Addr) (n cap : Nat) (l : List Vcp) (i gv : Nat) (cv : Array Value) (m : Nat) (vl : List Vcp) (w : World)
    (hH : Hs w0 (bx gv cv 43 :: (Y ++ X)) w) (hO : SlO 43 Y p n cap l) (hcv : cv.toList = vl.flatMap Enc.enc) (hm : m = vl.length) (hm0 : 0 < m) (hi : i ≤ n) (hb : n ≤ 1000) (hmb : m ≤ 1000)
    : Calls Try.prog 54 #[.slice p n cap, .int .i64 (i : Nat), .slice (some ⟨gv, 0, none⟩) m m] w fun e w' => ∃ q capq Y', e = .returned (.slice q (n + m) capq) ∧ SlO 43 Y' q (n + m) capq (l.take i ++ vl ++ l.drop i) ∧ Hs w0 (Y' ++ X) w' := by
  have hn := hO.len
  refine enter hH Try.func54 rfl Try.ntmps54 rfl (sq_ (qa0 [] [0, 1, 2] [] (ds_ (sq_ (qa [(2, .sl (.slice (if cap = i then p else p.map (·.add (i * 4))) (n - i) (cap - i)))] [0, 1, 2] [] ([SlRun Try.prog 23 (.slice p n cap) (some (.int .i64 ((i : Nat)))) none none (.slice (if cap = i then p else p.map (·.add (i * 4))) (n - i) (cap - i))]) (al1 (slE_cut (P := Try.prog) (T := 23) (e := 43) (k := 4) (by_ := 24) (by kernel_rfl) hi)) (ds_ (sq_ (qa0 [] [0, 1, 2] [(7, .int .i64 ((m : Nat)))] (ds_ (sq_ (sq_ (qa [(1, .no)] [0, 1, 2, 7] [(16, .bool false)] ([¬ (((m : Nat) : Int) = (0 : Int))]) (al1 ((by omega))) (ds_ (f_ (at_skip (ds_ (sq_ (qa0 [] [0, 1, 2, 7] [(8, .int .i64 ((n : Nat)))] (ds_ (sq_ (sq_ ?_)))))))))))))))))))))
  by_cases q7 : ((i : Nat) : Int) = ((n : Nat) : Int)
  ·
    refine qa [(2, .yes)] [0, 1, 2, 7, 8] [(22, .bool true)] ([((i : Nat) : Int) = ((n : Nat) : Int)]) (al1 q7) (ds_ (t_ (sq_ (ao_ (qo0 2 [] [] [(23, .slice p n cap), (24, .slice (some ⟨gv, 0, none⟩) m m)] (ops_append (α := Vcp) [bx gv cv 43] Y X (.refl _) rfl (by kernel_rfl) (by kernel_rfl) (p := p) (n := n) (cap := cap) (m := m) (yv := .slice (some ⟨gv, 0, none⟩) m m) (by kernel_rfl) (by kernel_rfl) (T := 43) (by_ := 24) (by kernel_rfl) l vl hO (fun w hw => src_svn Try.underlying23 (sv_row (hw.row 0 rfl) hcv) hm) hm (by have hmx : maxLen = 9223372036854775807 := rfl; omega) (by have hmx : maxLen = 9223372036854775807 := rfl; omega) (fun Y10 p10 cap10 hO10 => qo0 1 [] [] [(6, .slice p10 (n + m) cap10)] (on_ (ds_ (rt ([]) (.slice p10 (n + m) cap10) ?_))))))))))
    exact fun w' hw => ⟨_, _, _, rfl, by rw [show i = l.length by omega, List.take_length, List.drop_length, List.append_nil]; exact hO10, hw.tailN 1⟩
  ·
    refine qa [(2, .no)] [0, 1, 2, 7, 8] [(22, .bool false)] ([¬ (((i : Nat) : Int) = ((n : Nat) : Int))]) (al1 q7) (ds_ (f_ (at_skip (ds_ (sq_ (sq_ ?_))))))
    obtain ⟨g, cs, rfl, rfl, hOw⟩ := hO.rowOf (i := i) (by omega)
    have hcap := hOw.le
    have hcs := hOw.csz
    have hmax := hOw.max
    by_cases q15 : ((n + m : Nat) : Int) > ((cap : Nat) : Int)
    ·
      refine qa [(2, .fit), (5, .yes)] [0, 1, 2, 7, 8] [(31, .bool true)] ([Fit .i64 ((n + m : Nat))] ++ ([((n + m : Nat) : Int) > ((cap : Nat) : Int)])) (alA (al1 (fit64 (by omega) (by omega))) (al1 q15)) (ds_ (t_ (sq_ (ao_ (qo 8 [(2, .sl (.slice (some ⟨g, 0, none⟩) i cap)), (5, .fit), (7, .is [] (.int .i64 ((n + m - i : Nat))))] [0, 1, 2, 7] [(34, .slice (some ⟨g, 0, none⟩) i cap), (39, .int .i64 ((n + m - i : Nat)))] ([SlRun Try.prog 23 (.slice (some ⟨g, 0, none⟩) n cap) none (some (.int .i64 ((i : Nat)))) none (.slice (some ⟨g, 0, none⟩) i cap)] ++ ([Fit .i64 ((n + m : Nat))] ++ ([Value.int .i64 (IntKind.i64.wrap ((((n + m : Nat)) : Int) - ((i : Nat) : Int))) = .int .i64 ((n + m - i : Nat))]))) (alA (al1 (slE_hi (P := Try.prog) (T := 23) (e := 43) (k := 4) (by_ := 24) (by kernel_rfl) (h := i) (by omega))) (alA (al1 (fit64 (by omega) (by omega))) (al1 (by rw [wrap_fit (fit64 (by omega) (by omega))]; congr 1; omega)))) (ops_appendZ rfl (by kernel_rfl) (by kernel_rfl) (p := some ⟨g, 0, none⟩) (m := i) (cap := cap) (n := n + m - i) ((cs.toList.drop 0).take (i * 4)) (by kernel_rfl) (by kernel_rfl) (T := 43) (ks := 4) (by_ := 24) (by kernel_rfl) Try.underlying3 (by decide) (olds_len hcs (by omega)) (fun w hw => first_row (hw.row 1 rfl) (by rw [hcs, Nat.zero_add]; exact Nat.mul_le_mul_right _ (by omega))) (by omega) (by omega) (by simp only [maxLen]; omega) (by omega) (fun g2 c2 cap2 hc2 hle2 hmax2 hpre2 => qo0 1 [] [0, 1, 2, 7] [(9, .slice (some ⟨g2, 0, none⟩) (i + (n + m - i)) cap2)] (on_ (ds_ (sq_ (ao_ (qo 4 [(2, .sl (.slice (some ⟨g2, 0 + i * 4, none⟩) (i + (n + m - i) - i) (cap2 - i)))] [0, 1, 7, 9] [(43, .slice (some ⟨g2, 0 + i * 4, none⟩) (i + (n + m - i) - i) (cap2 - i)), (44, .slice (some ⟨gv, 0, none⟩) m m)] ([SlRun Try.prog 23 (.slice (some ⟨g2, 0, none⟩) (i + (n + m - i)) cap2) (some (.int .i64 ((i : Nat)))) none none (.slice (some ⟨g2, 0 + i * 4, none⟩) (i + (n + m - i) - i) (cap2 - i))]) (al1 (slE_lo (P := Try.prog) (T := 23) (e := 43) (k := 4) (by_ := 24) (by kernel_rfl) (lo := i) (by omega) (by omega))) (ops_copy 0 rfl (by kernel_rfl) (by kernel_rfl) (g := g2) (of := (0 + i * 4)) (dn := (i + (n + m - i) - i)) (dc := (cap2 - i)) (m := m) (cnt := m) (c := c2) (yv := (.slice (some ⟨gv, 0, none⟩) m m)) (vl.flatMap Enc.enc) (by kernel_rfl) (by kernel_rfl) (T := 43) (ks := 4) (by_ := 24) (by kernel_rfl) (T' := 43) (by kernel_rfl) len_slice (by omega) (fun w hw => by have := first_sv (P := Try.prog) (w := w) (p := some ⟨gv, 0, none⟩) (m := m) (cap := m) (cnt := m) (sv_row (hw.row 1 rfl) hcv) (by omega); rw [List.take_of_length_le (by omega)] at this; exact this) (by rw [flat_len, ← hm]; exact mul_room (c := cap2) (by omega) hc2) (flat_one vl) ?_)))))))))))))
      refine on_ (ds_ (sq_ ?_))
      refine at_any (by kernel_rfl) ?_
      refine tk (m := 3) [0, 1, 2, 3, 5, 6] [(3, .fit)] [9] [(46, .slice (some ⟨g2, 0, none⟩) (i + (n + m - i)) cap2), (49, .int .i64 ((i + m : Nat))), (51, .slice (some ⟨g, 0, none⟩) n cap), (52, .int .i64 ((i : Nat)))] ([Fit .i64 ((i + m : Nat))]) #[true, true, true, true, false, true, true, false, false] (al1 (fit64 (by omega) (by omega))) ?_
      refine any_cut 1 #[true, true, true, true, true, true, true, true, false] ([(9, .slice (some ⟨g2, 0, none⟩) (i + (n + m - i)) cap2), (50, .slice (some ⟨g2, 0 + (i + m) * 4, none⟩) (i + (n + m - i) - (i + m)) (cap2 - (i + m))), (53, .slice (some ⟨g, 0 + i * 4, none⟩) (n - i) (cap - i))]) (bx g2 ((sets c2 (0 + i * 4) (vl.flatMap Enc.enc))) 43 :: bx gv cv 43 :: bx g cs 43 :: X) ?_ (fun hm => ?_)
      rotate_left
      ·
        refine any_fork [4, 7] (by kernel_rfl) (by simp) (each_cons _ rfl ?_ (each_cons _ rfl ?_ (each_nil)))
        ·
          refine qo 1 [(4, .sl (.slice (some ⟨g2, 0 + (i + m) * 4, none⟩) (i + (n + m - i) - (i + m)) (cap2 - (i + m))))] [9, 51, 52] [(50, .slice (some ⟨g2, 0 + (i + m) * 4, none⟩) (i + (n + m - i) - (i + m)) (cap2 - (i + m)))] ([SlRun Try.prog 23 (.slice (some ⟨g2, 0, none⟩) (i + (n + m - i)) cap2) (some (.int .i64 ((i + m : Nat)))) none none (.slice (some ⟨g2, 0 + (i + m) * 4, none⟩) (i + (n + m - i) - (i + m)) (cap2 - (i + m)))]) (al1 (slE_lo (P := Try.prog) (T := 23) (e := 43) (k := 4) (by_ := 24) (by kernel_rfl) (lo := i + m) (by omega) (by omega))) ?_
          refine od_ ?_
          refine a1 7 rfl ?_
          refine qo 1 [(7, .sl (.slice (some ⟨g, 0 + i * 4, none⟩) (n - i) (cap - i)))] [9, 50] [(53, .slice (some ⟨g, 0 + i * 4, none⟩) (n - i) (cap - i))] ([SlRun Try.prog 23 (.slice (some ⟨g, 0, none⟩) n cap) (some (.int .i64 ((i : Nat)))) none none (.slice (some ⟨g, 0 + i * 4, none⟩) (n - i) (cap - i))]) (al1 (slE_lo (P := Try.prog) (T := 23) (e := 43) (k := 4) (by_ := 24) (by kernel_rfl) (lo := i) (by omega) (by omega))) ?_
          refine od_ ?_
          exact any_weak hm [9, 50, 53] (by kernel_rfl) rfl rfl rfl
        ·
          refine qo 1 [(7, .sl (.slice (some ⟨g, 0 + i * 4, none⟩) (n - i) (cap - i)))] [9, 46, 49] [(53, .slice (some ⟨g, 0 + i * 4, none⟩) (n - i) (cap - i))] ([SlRun Try.prog 23 (.slice (some ⟨g, 0, none⟩) n cap) (some (.int .i64 ((i : Nat)))) none none (.slice (some ⟨g, 0 + i * 4, none⟩) (n - i) (cap - i))]) (al1 (slE_lo (P := Try.prog) (T := 23) (e := 43) (k := 4) (by_ := 24) (by kernel_rfl) (lo := i) (by omega) (by omega))) ?_
          refine od_ ?_
          refine a1 4 rfl ?_
          refine qo 1 [(4, .sl (.slice (some ⟨g2, 0 + (i + m) * 4, none⟩) (i + (n + m - i) - (i + m)) (cap2 - (i + m))))] [9, 53] [(50, .slice (some ⟨g2, 0 + (i + m) * 4, none⟩) (i + (n + m - i) - (i + m)) (cap2 - (i + m)))] ([SlRun Try.prog 23 (.slice (some ⟨g2, 0, none⟩) (i + (n + m - i)) cap2) (some (.int .i64 ((i + m : Nat)))) none none (.slice (some ⟨g2, 0 + (i + m) * 4, none⟩) (i + (n + m - i) - (i + m)) (cap2 - (i + m)))]) (al1 (slE_lo (P := Try.prog) (T := 23) (e := 43) (k := 4) (by_ := 24) (by kernel_rfl) (lo := i + m) (by omega) (by omega))) ?_
          refine od_ ?_
          exact any_weak hm [9, 50, 53] (by kernel_rfl) rfl rfl rfl
      refine a1 8 rfl ?_
      refine ops_copy 0 rfl (by kernel_rfl) (by kernel_rfl) (g := g2) (of := (0 + (i + m) * 4)) (dn := (i + (n + m - i) - (i + m))) (dc := (cap2 - (i + m))) (m := (n - i)) (cnt := (n - i)) (c := ((sets c2 (0 + i * 4) (vl.flatMap Enc.enc)))) (yv := (.slice (some ⟨g, 0 + i * 4, none⟩) (n - i) (cap - i))) ((cs.toList.drop (0 + i * 4)).take ((n - i) * 4)) (by kernel_rfl) (by kernel_rfl) (T := 43) (ks := 4) (by_ := 24) (by kernel_rfl) (T' := 43) (by kernel_rfl) len_slice (by omega) (fun w hw => first_row (hw.row 2 rfl) (row_room hOw (by omega))) (by rw [sets_size]; exact copy_room (c := cap2) hOw (by omega) (by omega) hc2) (row_one hOw (by omega)) ?_
      refine od_ ?_
      refine any_nil (by kernel_rfl) ?_
      refine ds_ (sq_ (qa0 [] [] [(6, .slice (some ⟨g2, 0, none⟩) (i + (n + m - i)) cap2)] (ds_ (rt ([]) (.slice (some ⟨g2, 0, none⟩) (i + (n + m - i)) cap2) ?_))))
      exact fun w' hw => ⟨some ⟨g2, 0, none⟩, cap2, [_], by rw [show i + (n + m - i) = n + m by omega], .inr ⟨_, _, rfl, rfl, by simp; omega, ins_grow hOw (by omega) hm (by omega) hc2 (by omega) hmax2 hpre2⟩, hw.sub (.cons_cons _ (.cons _ (.cons _ (.refl _))))⟩
    ·
      refine qa [(2, .fit), (5, .no)] [0, 1, 2, 7, 8] [(31, .bool false)] ([Fit .i64 ((n + m : Nat))] ++ ([¬ (((n + m : Nat) : Int) > ((cap : Nat) : Int))])) (alA (al1 (fit64 (by omega) (by omega))) (al1 q15)) (ds_ (f_ (at_skip (ds_ (sq_ (qa [(3, .fit), (4, .sl (.slice (some ⟨g, 0, none⟩) (n + m) cap))] [1, 2, 7, 8] [(0, .slice (some ⟨g, 0, none⟩) (n + m) cap)] ([Fit .i64 ((n + m : Nat))] ++ ([SlRun Try.prog 23 (.slice (some ⟨g, 0, none⟩) n cap) none (some (.int .i64 ((n + m : Nat)))) none (.slice (some ⟨g, 0, none⟩) (n + m) cap)])) (alA (al1 (fit64 (by omega) (by omega))) (al1 (slE_hi (P := Try.prog) (T := 23) (e := 43) (k := 4) (by_ := 24) (by kernel_rfl) (h := n + m) (by omega)))) (ds_ (sq_ (sq_ (ao_ (qo 6 [(4, .fit), (5, .sl (.slice (some ⟨g, 0 + (i + m) * 4, none⟩) (n + m - (i + m)) (cap - (i + m))))] [0, 1, 2, 7, 8] [(61, .slice (some ⟨gv, 0, none⟩) m m), (66, .slice (some ⟨g, 0 + (i + m) * 4, none⟩) (n + m - (i + m)) (cap - (i + m)))] ([Fit .i64 ((i + m : Nat))] ++ ([SlRun Try.prog 23 (.slice (some ⟨g, 0, none⟩) (n + m) cap) (some (.int .i64 ((i + m : Nat)))) none none (.slice (some ⟨g, 0 + (i + m) * 4, none⟩) (n + m - (i + m)) (cap - (i + m)))])) (alA (al1 (fit64 (by omega) (by omega))) (al1 (slE_lo (P := Try.prog) (T := 23) (e := 43) (k := 4) (by_ := 24) (by kernel_rfl) (lo := i + m) (by omega) (by omega)))) (ops_ext (f := 76) (args := #[.slice (some ⟨gv, 0, none⟩) m m, .slice (some ⟨g, 0 + (i + m) * 4, none⟩) (n + m - (i + m)) (cap - (i + m))]) (.bool false) (by kernel_rfl) (by kernel_rfl) (by kernel_rfl) (fun w hw => overlaps_noV (hw.row 0 rfl) (hw.row 1 rfl) (apart_two hw (a := 0) (b := 1) rfl rfl (by decide))) (qo0 1 [] [0, 1, 2, 7, 8] [(68, .bool true)] (on_ (ds_ (t_ (sq_ ?_)))))))))))))))))
      refine at_any (by kernel_rfl) ?_
      refine tk (m := 3) [0, 1, 2, 3, 5, 6] [(3, .fit)] [0, 1, 2] [(69, .slice (some ⟨g, 0, none⟩) (n + m) cap), (72, .int .i64 ((i + m : Nat))), (74, .slice (some ⟨g, 0, none⟩) (n + m) cap), (75, .int .i64 ((i : Nat)))] ([Fit .i64 ((i + m : Nat))]) #[true, true, true, true, false, true, true, false, false] (al1 (fit64 (by omega) (by omega))) ?_
      refine any_cut 1 #[true, true, true, true, true, true, true, true, false] ([(0, .slice (some ⟨g, 0, none⟩) (n + m) cap), (1, .int .i64 ((i : Nat))), (2, .slice (some ⟨gv, 0, none⟩) m m), (73, .slice (some ⟨g, 0 + (i + m) * 4, none⟩) (n + m - (i + m)) (cap - (i + m))), (76, .slice (some ⟨g, 0 + i * 4, none⟩) (n + m - i) (cap - i))]) (bx gv cv 43 :: bx g cs 43 :: X) ?_ (fun hm => ?_)
      rotate_left
      ·
        refine any_fork [4, 7] (by kernel_rfl) (by simp) (each_cons _ rfl ?_ (each_cons _ rfl ?_ (each_nil)))
        ·
          refine qo 1 [(4, .sl (.slice (some ⟨g, 0 + (i + m) * 4, none⟩) (n + m - (i + m)) (cap - (i + m))))] [0, 1, 2, 74, 75] [(73, .slice (some ⟨g, 0 + (i + m) * 4, none⟩) (n + m - (i + m)) (cap - (i + m)))] ([SlRun Try.prog 23 (.slice (some ⟨g, 0, none⟩) (n + m) cap) (some (.int .i64 ((i + m : Nat)))) none none (.slice (some ⟨g, 0 + (i + m) * 4, none⟩) (n + m - (i + m)) (cap - (i + m)))]) (al1 (slE_lo (P := Try.prog) (T := 23) (e := 43) (k := 4) (by_ := 24) (by kernel_rfl) (lo := i + m) (by omega) (by omega))) ?_
          refine od_ ?_
          refine a1 7 rfl ?_
          refine qo 1 [(7, .sl (.slice (some ⟨g, 0 + i * 4, none⟩) (n + m - i) (cap - i)))] [0, 1, 2, 73] [(76, .slice (some ⟨g, 0 + i * 4, none⟩) (n + m - i) (cap - i))] ([SlRun Try.prog 23 (.slice (some ⟨g, 0, none⟩) (n + m) cap) (some (.int .i64 ((i : Nat)))) none none (.slice (some ⟨g, 0 + i * 4, none⟩) (n + m - i) (cap - i))]) (al1 (slE_lo (P := Try.prog) (T := 23) (e := 43) (k := 4) (by_ := 24) (by kernel_rfl) (lo := i) (by omega) (by omega))) ?_
          refine od_ ?_
          exact any_weak hm [0, 1, 2, 73, 76] (by kernel_rfl) rfl rfl rfl
        ·
          refine qo 1 [(7, .sl (.slice (some ⟨g, 0 + i * 4, none⟩) (n + m - i) (cap - i)))] [0, 1, 2, 69, 72] [(76, .slice (some ⟨g, 0 + i * 4, none⟩) (n + m - i) (cap - i))] ([SlRun Try.prog 23 (.slice (some ⟨g, 0, none⟩) (n + m) cap) (some (.int .i64 ((i : Nat)))) none none (.slice (some ⟨g, 0 + i * 4, none⟩) (n + m - i) (cap - i))]) (al1 (slE_lo (P := Try.prog) (T := 23) (e := 43) (k := 4) (by_ := 24) (by kernel_rfl) (lo := i) (by omega) (by omega))) ?_
          refine od_ ?_
          refine a1 4 rfl ?_
          refine qo 1 [(4, .sl (.slice (some ⟨g, 0 + (i + m) * 4, none⟩) (n + m - (i + m)) (cap - (i + m))))] [0, 1, 2, 76] [(73, .slice (some ⟨g, 0 + (i + m) * 4, none⟩) (n + m - (i + m)) (cap - (i + m)))] ([SlRun Try.prog 23 (.slice (some ⟨g, 0, none⟩) (n + m) cap) (some (.int .i64 ((i + m : Nat)))) none none (.slice (some ⟨g, 0 + (i + m) * 4, none⟩) (n + m - (i + m)) (cap - (i + m)))]) (al1 (slE_lo (P := Try.prog) (T := 23) (e := 43) (k := 4) (by_ := 24) (by kernel_rfl) (lo := i + m) (by omega) (by omega))) ?_
          refine od_ ?_
          exact any_weak hm [0, 1, 2, 73, 76] (by kernel_rfl) rfl rfl rfl
      refine a1 8 rfl ?_
      refine ops_copy 1 rfl (by kernel_rfl) (by kernel_rfl) (g := g) (of := (0 + (i + m) * 4)) (dn := (n + m - (i + m))) (dc := (cap - (i + m))) (m := (n + m - i)) (cnt := (n - i)) (c := cs) (yv := (.slice (some ⟨g, 0 + i * 4, none⟩) (n + m - i) (cap - i))) ((cs.toList.drop (0 + i * 4)).take ((n - i) * 4)) (by kernel_rfl) (by kernel_rfl) (T := 43) (ks := 4) (by_ := 24) (by kernel_rfl) (T' := 43) (by kernel_rfl) len_slice (by omega) (fun w hw => first_row (hw.row 1 rfl) (row_room hOw (by omega))) (copy_room (c := cap) hOw (by omega) (by omega) hcs) (row_one hOw (by omega)) ?_
      refine od_ ?_
      refine any_nil (by kernel_rfl) ?_
      refine ds_ (sq_ (ao_ (qo 4 [(2, .sl (.slice (some ⟨g, 0 + i * 4, none⟩) (n + m - i) (cap - i)))] [0] [(80, .slice (some ⟨g, 0 + i * 4, none⟩) (n + m - i) (cap - i)), (81, .slice (some ⟨gv, 0, none⟩) m m)] ([SlRun Try.prog 23 (.slice (some ⟨g, 0, none⟩) (n + m) cap) (some (.int .i64 ((i : Nat)))) none none (.slice (some ⟨g, 0 + i * 4, none⟩) (n + m - i) (cap - i))]) (al1 (slE_lo (P := Try.prog) (T := 23) (e := 43) (k := 4) (by_ := 24) (by kernel_rfl) (lo := i) (by omega) (by omega))) (ops_copy 1 rfl (by kernel_rfl) (by kernel_rfl) (g := g) (of := (0 + i * 4)) (dn := (n + m - i)) (dc := (cap - i)) (m := m) (cnt := m) (c := ((sets cs (0 + (i + m) * 4) ((cs.toList.drop (0 + i * 4)).take ((n - i) * 4))))) (yv := (.slice (some ⟨gv, 0, none⟩) m m)) (vl.flatMap Enc.enc) (by kernel_rfl) (by kernel_rfl) (T := 43) (ks := 4) (by_ := 24) (by kernel_rfl) (T' := 43) (by kernel_rfl) len_slice (by omega) (fun w hw => by have := first_sv (P := Try.prog) (w := w) (p := some ⟨gv, 0, none⟩) (m := m) (cap := m) (cnt := m) (sv_row (hw.row 0 rfl) hcv) (by omega); rw [List.take_of_length_le (by omega)] at this; exact this) (by rw [flat_len, ← hm, sets_size]; exact mul_room (c := cap) (by omega) hcs) (flat_one vl) (on_ (ds_ (sq_ (qa0 [] [] [(6, .slice (some ⟨g, 0, none⟩) (n + m) cap)] (ds_ (rt ([]) (.slice (some ⟨g, 0, none⟩) (n + m) cap) ?_))))))))))
      exact fun w' hw => ⟨_, _, [_], rfl, .inr ⟨_, _, rfl, rfl, by simp; omega, ins_room hOw (by omega) hm (by omega) (by omega)⟩, hw.sub (.cons _ (.refl _))⟩
end Go.Proofs.Ytnoefldpkfpglaa

/-! Domains: what the movers leave; plain. -/
namespace Go.Proofs.Ytnoefldpkfpglaa
open Go Go.RowKit

/-- Guests, and an error's number. -/
abbrev G3 := List Dom × List Vcp × Int
def createV (ds : List Dom) (vs : List Vcp) (d : Dom) : G3 :=
  if guestsB ds vs = false then ([], [], 190) else if mayB d = false then ([], [], 2) else if (getK Dom.id ds d.id).isSome then ([], [], 5) else (insK Dom.id ds d, vs, 0)
def changeV (ds : List Dom) (vs : List Vcp) (d : Dom) : G3 :=
  if guestsB ds vs = false then ([], [], 190) else if mayB d = false then ([], [], 2) else if (getK Dom.id ds d.id).isSome = false then ([], [], 4) else (putK Dom.id ds d, vs, 0)
def destroyV (ds : List Dom) (vs : List Vcp) (k : Int) : G3 :=
  if guestsB ds vs = false then ([], [], 190) else if (getK Dom.id ds k).isSome = false then ([], [], 4) else if 0 < cntV vs k then ([], [], 8) else (delK Dom.id ds k, vs, 0)
/-- Behind the first i vCPUs, which have the numbers up to i: how many have the numbers that follow. -/
def gapV : List Vcp → Nat → Nat
  | [], i => i
  | v :: t, i => if v.id = (i : Int) + 1 then gapV t (i + 1) else i
def addV (ds : List Dom) (vs : List Vcp) (k h s : Int) : G3 :=
  if guestsB ds vs = false then ([], [], 190) else if (getK Dom.id ds k).isSome = false then ([], [], 4) else if maskB h s = false then ([], [], 170)
  else if vs.length = 16 ∨ cntV vs k = 8 then ([], [], 6) else (ds, vs.take (gapV vs 0) ++ [⟨(gapV vs 0 : Nat) + 1, k, h, s⟩] ++ vs.drop (gapV vs 0), 0)
/-- The number that was given. -/
def addN (ds : List Dom) (vs : List Vcp) (k h s : Int) : Int := if (addV ds vs k h s).2.2 = 0 then (gapV vs 0 : Nat) + 1 else 0
def dropV (ds : List Dom) (vs : List Vcp) (k : Int) : G3 :=
  if guestsB ds vs = false then ([], [], 190) else if (getK Vcp.id vs k).isSome = false then ([], [], 4) else (ds, delK Vcp.id vs k, 0)
def remaskV (ds : List Dom) (vs : List Vcp) (k h s : Int) : G3 :=
  if guestsB ds vs = false then ([], [], 190) else match getK Vcp.id vs k with
  | none => ([], [], 4)
  | some v => if maskB h s = false then ([], [], 170) else (ds, putK Vcp.id vs ⟨v.id, v.dom, h, s⟩, 0)
section
variable {ds : List Dom} {vs : List Vcp} {d x : Dom} {k h s : Int} {v : Vcp} {i j : Nat}
theorem createV_bad (g : guestsB ds vs = false) : createV ds vs d = ([], [], 190) := by simp [createV, g]
theorem createV_arg (g : guestsB ds vs = true) (m : mayB d = false) : createV ds vs d = ([], [], 2) := by simp [createV, g, m]
theorem createV_there (g : guestsB ds vs = true) (m : mayB d = true) (e : getK Dom.id ds d.id = some x) : createV ds vs d = ([], [], 5) := by simp [createV, g, m, e]
theorem createV_ok (g : guestsB ds vs = true) (m : mayB d = true) (e : getK Dom.id ds d.id = none) : createV ds vs d = (ds.take (posK Dom.id ds d.id) ++ [d] ++ ds.drop (posK Dom.id ds d.id), vs, 0) := by simp [createV, g, m, e, insK]
theorem changeV_bad (g : guestsB ds vs = false) : changeV ds vs d = ([], [], 190) := by simp [changeV, g]
theorem changeV_arg (g : guestsB ds vs = true) (m : mayB d = false) : changeV ds vs d = ([], [], 2) := by simp [changeV, g, m]
theorem changeV_none (g : guestsB ds vs = true) (m : mayB d = true) (e : getK Dom.id ds d.id = none) : changeV ds vs d = ([], [], 4) := by simp [changeV, g, m, e]
theorem changeV_ok (g : guestsB ds vs = true) (m : mayB d = true) (e : getK Dom.id ds d.id = some x) : changeV ds vs d = (ds.set (posK Dom.id ds d.id) d, vs, 0) := by simp [changeV, g, m, e, putK]
theorem destroyV_bad (g : guestsB ds vs = false) : destroyV ds vs k = ([], [], 190) := by simp [destroyV, g]
theorem destroyV_none (g : guestsB ds vs = true) (e : getK Dom.id ds k = none) : destroyV ds vs k = ([], [], 4) := by simp [destroyV, g, e]
theorem destroyV_busy (g : guestsB ds vs = true) (e : getK Dom.id ds k = some x) (c : (cntV vs k : Int) > 0) : destroyV ds vs k = ([], [], 8) := by
  have : 0 < cntV vs k := by omega
  simp [destroyV, g, e, this]
theorem destroyV_ok (g : guestsB ds vs = true) (e : getK Dom.id ds k = some x) (c : ¬ (cntV vs k : Int) > 0) : destroyV ds vs k = (ds.take (posK Dom.id ds k) ++ ds.drop (posK Dom.id ds k + 1), vs, 0) := by
  have : ¬ 0 < cntV vs k := by omega
  simp only [destroyV, g, e, this, delK, Option.isSome_some, if_false, Bool.true_eq_false]
theorem addV_bad (g : guestsB ds vs = false) : addV ds vs k h s = ([], [], 190) := by simp [addV, g]
theorem addV_none (g : guestsB ds vs = true) (e : getK Dom.id ds k = none) : addV ds vs k h s = ([], [], 4) := by simp [addV, g, e]
theorem addV_mask (g : guestsB ds vs = true) (e : getK Dom.id ds k = some x) (m : maskB h s = false) : addV ds vs k h s = ([], [], 170) := by simp [addV, g, e, m]
theorem addV_full (g : guestsB ds vs = true) (e : getK Dom.id ds k = some x) (m : maskB h s = true) (f : vs.length = 16 ∨ cntV vs k = 8) : addV ds vs k h s = ([], [], 6) := by
  simp only [addV, g, e, m, if_pos f, Option.isSome_some, if_false, Bool.true_eq_false]
theorem addV_ok (g : guestsB ds vs = true) (e : getK Dom.id ds k = some x) (m : maskB h s = true) (f : ¬ (vs.length = 16 ∨ cntV vs k = 8)) (hj : gapV vs 0 = j) : addV ds vs k h s = (ds, vs.take j ++ [⟨((j + 1 : Nat) : Int), k, h, s⟩] ++ vs.drop j, 0) := by
  subst hj
  simp only [addV, g, e, m, if_neg f, Option.isSome_some, if_false, Bool.true_eq_false]
  rfl
theorem addN_no {e : Int} (h0 : addV ds vs k h s = ([], [], e)) (he : e ≠ 0) : addN ds vs k h s = 0 := by simp [addN, h0, he]
theorem addN_ok {a : List Dom} {b : List Vcp} (h0 : addV ds vs k h s = (a, b, 0)) (hj : gapV vs 0 = j) : addN ds vs k h s = ((j + 1 : Nat) : Int) := by simp [addN, h0, hj]
theorem dropV_bad (g : guestsB ds vs = false) : dropV ds vs k = ([], [], 190) := by simp [dropV, g]
theorem dropV_none (g : guestsB ds vs = true) (e : getK Vcp.id vs k = none) : dropV ds vs k = ([], [], 4) := by simp [dropV, g, e]
theorem dropV_ok (g : guestsB ds vs = true) (e : getK Vcp.id vs k = some v) : dropV ds vs k = (ds, vs.take (posK Vcp.id vs k) ++ vs.drop (posK Vcp.id vs k + 1), 0) := by
  simp only [dropV, g, e, delK, Option.isSome_some, if_false, Bool.true_eq_false]
theorem remaskV_bad (g : guestsB ds vs = false) : remaskV ds vs k h s = ([], [], 190) := by simp [remaskV, g]
theorem remaskV_none (g : guestsB ds vs = true) (e : getK Vcp.id vs k = none) : remaskV ds vs k h s = ([], [], 4) := by simp [remaskV, g, e]
theorem remaskV_mask (g : guestsB ds vs = true) (e : getK Vcp.id vs k = some v) (m : maskB h s = false) : remaskV ds vs k h s = ([], [], 170) := by simp [remaskV, g, e, m]
theorem remaskV_ok (g : guestsB ds vs = true) (e : getK Vcp.id vs k = some v) (m : maskB h s = true) : remaskV ds vs k h s = (ds, vs.set (posK Vcp.id vs k) ⟨v.id, v.dom, h, s⟩, 0) := by
  have : v.id = k := (getK_mem e).2
  simp [remaskV, g, e, m, putK, this]
/-- The walk along the numbers. -/
theorem gap_on (hI : gapV (vs.drop j) j = gapV vs 0) (hx : vs[j]? = some v) (e : v.id = ((j + 1 : Nat) : Int)) : gapV (vs.drop (j + 1)) (j + 1) = gapV vs 0 := by
  rw [← hI, ← List.getElem_cons_drop (List.getElem?_eq_some_iff.1 hx).1, (List.getElem?_eq_some_iff.1 hx).2]
  simp [gapV, e]
theorem gap_at (hI : gapV (vs.drop j) j = gapV vs 0) (hx : vs[j]? = some v) (e : ¬ v.id = ((j + 1 : Nat) : Int)) : gapV vs 0 = j := by
  rw [← hI, ← List.getElem_cons_drop (List.getElem?_eq_some_iff.1 hx).1, (List.getElem?_eq_some_iff.1 hx).2]
  have : ¬ v.id = (j : Int) + 1 := fun h => e (by omega)
  simp [gapV, this]
theorem gap_end (hI : gapV (vs.drop j) j = gapV vs 0) (h : vs.length ≤ j) : gapV vs 0 = j := by
  rw [← hI, List.drop_of_length_le h]; rfl
theorem createV_len : (createV ds vs d).1.length ≤ ds.length + 1 ∧ (createV ds vs d).2.1.length ≤ vs.length := by
  unfold createV
  repeat' split
  all_goals simp [insK]
  all_goals omega
theorem changeV_len : (changeV ds vs d).1.length ≤ ds.length + 1 ∧ (changeV ds vs d).2.1.length ≤ vs.length := by
  unfold changeV
  repeat' split
  all_goals simp [putK]
theorem destroyV_len : (destroyV ds vs k).1.length ≤ ds.length + 1 ∧ (destroyV ds vs k).2.1.length ≤ vs.length := by
  unfold destroyV
  repeat' split
  all_goals simp [delK]
  all_goals omega
theorem addV_len : (addV ds vs k h s).1.length ≤ ds.length ∧ (addV ds vs k h s).2.1.length ≤ vs.length + 1 := by
  unfold addV
  repeat' split
  all_goals simp
  all_goals omega
theorem dropV_len : (dropV ds vs k).1.length ≤ ds.length ∧ (dropV ds vs k).2.1.length ≤ vs.length + 1 := by
  unfold dropV
  repeat' split
  all_goals simp [delK]
  all_goals omega
theorem remaskV_len : (remaskV ds vs k h s).1.length ≤ ds.length ∧ (remaskV ds vs k h s).2.1.length ≤ vs.length + 1 := by
  unfold remaskV
  repeat' split
  all_goals simp [putK]
/-- The layer does something. -/
theorem wk1 : createV [] [] ⟨2, 256, 0, 0⟩ = ([⟨2, 256, 0, 0⟩], [], 0) := by decide
theorem wk2 : addV [⟨2, 256, 0, 0⟩] [] 2 1 0 = ([⟨2, 256, 0, 0⟩], [⟨1, 2, 1, 0⟩], 0) ∧ addN [⟨2, 256, 0, 0⟩] [] 2 1 0 = 1 := by decide
theorem wk3 : addV [⟨2, 256, 0, 0⟩] [⟨1, 2, 1, 0⟩] 2 1 0 = ([⟨2, 256, 0, 0⟩], [⟨1, 2, 1, 0⟩, ⟨2, 2, 1, 0⟩], 0) ∧ addN [⟨2, 256, 0, 0⟩] [⟨1, 2, 1, 0⟩] 2 1 0 = 2 := by decide
theorem wk4 : rateV [⟨2, 256, 0, 0⟩] [⟨1, 2, 1, 0⟩, ⟨2, 2, 1, 0⟩] 2 = .tuple #[.int .i64 256, .int .i64 2, .bool true] := by
  have h : guestsB [⟨2, 256, 0, 0⟩] [⟨1, 2, 1, 0⟩, ⟨2, 2, 1, 0⟩] = true := by decide
  simp [rateV, h, fG, getK, cntV]
theorem two_tails {w0 w : World} {Y X : List Ob} (h : Hs w0 (Y ++ (X ++ [])) w) : Hs w0 (Y ++ X) w := by rwa [List.append_nil] at h
theorem Hs.join2 {w0 w w' : World} {L Y X : List Ob} (h : Hs w0 L w) (hb : Below w.heap.size w w') (hY : Hs w (Y ++ X) w') (n : Nat) : Hs w0 (L.take n ++ (Y ++ (X ++ L.drop n))) w' := by
  have := h.join hb hY n
  rwa [List.append_assoc] at this
end
end Go.Proofs.Ytnoefldpkfpglaa

/-! The walker: two cells of an element changed in place. -/
namespace Go.Proofs.Ytnoefldpkfpglaa
open Go Go.RowKit
section
variable {α : Type} [Enc α] {l : List α} {x x' : α} {v v' : Value} {i f n cap : Nat} {cs : Array Value}
theorem OwnS.put2 (h : OwnS (Enc.k α) (l.flatMap Enc.enc) n cap cs) (hn : n = l.length) (hx : l[i]? = some x) (hf : f + 1 < Enc.k α) (mid : ∃ x1 : α, Enc.enc x1 = (Enc.enc x).set f v) (he : Enc.enc x' = ((Enc.enc x).set f v).set (f + 1) v') :
    OwnS (Enc.k α) ((l.set i x').flatMap Enc.enc) n cap ((cs.setIfInBounds (0 + i * Enc.k α + f) v).setIfInBounds (0 + i * Enc.k α + f + 1) v') := by
  obtain ⟨x1, h1⟩ := mid
  have a := h.put hn hx (f := f) (by omega) h1
  have b := a.put (x' := x') (v := v') (f := f + 1) (len_set hn) (get_set hx) hf (by rw [h1]; exact he)
  rw [List.set_set] at b
  exact b
end
end Go.Proofs.Ytnoefldpkfpglaa

/-! Domains: Change, Remask. -/
namespace Go.Proofs.Ytnoefldpkfpglaa
open Go Go.RowKit

set_option maxRecDepth 100000 in
theorem change_d (p : Option Addr) (n cap : Nat) (ds : List Dom) (q : Option Addr) (m capv : Nat) (vs : List Vcp) (d : Dom) (w : World)
 (hds : Sv w p ds) (hn : n = ds.length) (hb : n ≤ 1000)
 (hvs : Sv w q vs) (hm : m = vs.length) (hmb : m ≤ 1000)
 : Calls Try.prog 30 #[.agg #[.slice p n cap, .slice q m capv], .agg #[.int .i64 d.id, .int .i64 d.weight, .int .i64 d.cap, .int .i64 d.pool]] w fun e w' => ∃ q m capq Y q2 m2 capq2 X, e = .returned (.tuple #[.agg #[.slice q m capq, .slice q2 m2 capq2], .int .i64 (changeV ds vs d).2.2]) ∧ SlO 32 Y q m capq (changeV ds vs d).1 ∧ SlO 43 X q2 m2 capq2 (changeV ds vs d).2.1 ∧ Below w.heap.size w w' ∧ Hs w (Y ++ X) w' := by
 refine enter (Hs.start w) Try.func30 rfl Try.ntmps30 rfl (sq_ (ma0 [] [] (fun γ1 => [(2, .pointer (some ⟨γ1 0, 0, none⟩)), (3, .pointer (some ⟨γ1 1, 0, none⟩)), (4, .pointer (some ⟨γ1 2, 0, none⟩))]) (fun γ1 L => bx (γ1 2) (#[.slice none 0 0, .slice none 0 0]) 25 :: bx (γ1 1) (#[.int .i64 d.id, .int .i64 d.weight, .int .i64 d.cap, .int .i64 d.pool]) 32 :: bx (γ1 0) (#[.slice p n cap, .slice q m capv]) 25 :: L) (fun γ1 => ds_ (sq_ (ao_ (qo0 2 [(0, .go (owns 2 0 2))] [4] [(6, .agg #[.slice p n cap, .slice q m capv]), (7, .func (.func 63) #[] #[.pointer (some ⟨γ1 1, 0, none⟩)])] (ops_inline (g := 52) (args := #[.agg #[.slice p n cap, .slice q m capv], .func (.func 63) #[] #[.pointer (some ⟨γ1 1, 0, none⟩)]]) (by kernel_rfl) (by kernel_rfl) (by kernel_rfl) (fun args w => Try.call52 args w) Try.func52 rfl Try.ntmps52 rfl (sq_ (ma0 [] [1] (fun γ3 => [(2, .pointer (some ⟨γ3 0, 0, none⟩)), (4, .pointer (some ⟨γ3 1, 0, none⟩))]) (fun γ3 L => bx (γ3 1) (#[.slice none 0 0, .slice none 0 0]) 25 :: bx (γ3 0) (#[.slice p n cap, .slice q m capv]) 25 :: L) (fun γ3 => ds_ (sq_ (sq_ (ao_ (qo0 1 [(0, .go (owns 1 0 2))] [1, 2, 4] [(9, .agg #[.slice p n cap, .slice q m capv])] ?_))))))))))))))
 rcases q5 : guestsB ds vs with _ | _
 ·
  refine cD (.int .i64 190) Try.call10 (fun w hw => by have := gcheck_d p n cap ds q m capv vs w (hds.kept hw.below) hn (by omega) (hvs.kept hw.below) hm (by omega); rw [q5] at this; exact this) (qo0 1 [] [1, 2, 4] [(6, .int .i64 190)] (on_ (ds_ (sq_ (qa0 [] [1, 2, 4, 6] [(12, .bool true)] (ds_ (t_ (sq_ (qa0 [(2, .go (owns 0 0 2))] [4] [(5, .int .i64 190)] (ds_ (bk (owns 0 0 2) (.tuple #[.agg #[.slice none 0 0, .slice none 0 0], .int .i64 190]) (qo0 4 [(5, .go (owns 2 0 2))] [4] [(5, .int .i64 190)] (on_ (ds_ (rt (owns 2 0 2) (.tuple #[.agg #[.slice none 0 0, .slice none 0 0], .int .i64 190]) ?_)))))))))))))))
  exact fun w' hw => by rw [changeV_bad q5]; exact ⟨none, 0, 0, [], none, 0, 0, [], rfl, SlO.nil, SlO.nil, hw.below, hw.sub (List.nil_sublist _)⟩
 ·
  refine cD (.int .i64 0) Try.call10 (fun w hw => by have := gcheck_d p n cap ds q m capv vs w (hds.kept hw.below) hn (by omega) (hvs.kept hw.below) hm (by omega); rw [q5] at this; exact this) (qo0 1 [] [1, 2, 4] [(6, .int .i64 0)] (on_ (ds_ (sq_ (qa0 [] [1, 2, 4, 6] [(12, .bool false)] (ds_ (f_ (at_skip (ds_ (sq_ ?_))))))))))
  refine at_any (by kernel_rfl) ?_
  refine tk (m := 9) [0, 4] [] [1, 2, 4] [(15, .pointer (some ⟨γ3 0, 0, none⟩)), (19, .pointer (some ⟨γ3 0, 1, none⟩))] ([]) #[true, false, false, false, true, false, false, false, false, false, false] al0 ?_
  refine any_cutX (V := (Array Value) × (Array Value) × (Nat) × (Nat) × (Nat → Nat)) (fun ⟨c155, c75, g155, g75, γ195⟩ => c155.size = m * 4 ∧ c75.size = n * 4) 0 #[true, true, true, true, true, true, true, true, true, true, true] (fun ⟨c155, c75, g155, g75, γ195⟩ => [(1, .func (.func 63) #[] #[.pointer (some ⟨γ1 1, 0, none⟩)]), (2, .pointer (some ⟨γ3 0, 0, none⟩)), (4, .pointer (some ⟨γ3 1, 0, none⟩)), (7, .pointer (some ⟨γ195 0, 0, none⟩))]) (fun ⟨c155, c75, g155, g75, γ195⟩ => [bx (γ195 0) (#[.slice (some ⟨g75, 0, none⟩) n n, .slice (some ⟨g155, 0, none⟩) m m]) 25, bx g155 c155 43, bx g75 c75 32, bx (γ3 1) (#[.slice none 0 0, .slice none 0 0]) 25, bx (γ3 0) (#[.slice p n cap, .slice q m capv]) 25, bx (γ1 2) (#[.slice none 0 0, .slice none 0 0]) 25, bx (γ1 1) (#[.int .i64 d.id, .int .i64 d.weight, .int .i64 d.cap, .int .i64 d.pool]) 32, bx (γ1 0) (#[.slice p n cap, .slice q m capv]) 25]) ?_ (fun hmx18 => ?_)
  rotate_left
  ·
   refine any_cutX (V := (Array Value) × (Array Value) × (Nat) × (Nat) × (Nat → Nat)) (fun ⟨c155, c75, g155, g75, γ195⟩ => c155.size = m * 4 ∧ c75.size = n * 4) 1 #[true, true, true, true, true, true, true, true, true, true, false] (fun ⟨c155, c75, g155, g75, γ195⟩ => [(1, .func (.func 63) #[] #[.pointer (some ⟨γ1 1, 0, none⟩)]), (2, .pointer (some ⟨γ3 0, 0, none⟩)), (4, .pointer (some ⟨γ3 1, 0, none⟩)), (7, .pointer (some ⟨γ195 0, 0, none⟩)), (23, .agg #[.slice (some ⟨g75, 0, none⟩) n n, .slice (some ⟨g155, 0, none⟩) m m])]) (fun ⟨c155, c75, g155, g75, γ195⟩ => [bx (γ195 0) (#[.slice none 0 0, .slice none 0 0]) 25, bx g155 c155 43, bx g75 c75 32, bx (γ3 1) (#[.slice none 0 0, .slice none 0 0]) 25, bx (γ3 0) (#[.slice p n cap, .slice q m capv]) 25, bx (γ1 2) (#[.slice none 0 0, .slice none 0 0]) 25, bx (γ1 1) (#[.int .i64 d.id, .int .i64 d.weight, .int .i64 d.cap, .int .i64 d.pool]) 32, bx (γ1 0) (#[.slice p n cap, .slice q m capv]) 25]) ?_ (fun hmx17 => ?_)
   ·
    rintro ⟨c155, c75, g155, g75, γ195⟩ ⟨hc155, hc75⟩
    refine a1 10 rfl ?_
    refine mo0 1 [(10, .go (owns 0 0 2))] [1, 2, 4, 7] (fun _ => []) (fun _ L => (L.set 0 (bx (γ195 0) (#[.slice (some ⟨g75, 0, none⟩) n n, .slice (some ⟨g155, 0, none⟩) m m]) 25))) (fun _ => ?_)
    refine od_ ?_
    exact wk (hmx18 (c155, c75, g155, g75, γ195) ⟨hc155, hc75⟩) [1, 2, 4, 7] [[_], [_], [_], [_], [_], [_], [_], [_]] [0, 1, 2, 3, 4, 5, 6, 7] rfl rfl
   refine any_cutX (V := (Array Value) × (Array Value) × (Nat) × (Nat)) (fun ⟨c155, c75, g155, g75⟩ => c155.size = m * 4 ∧ c75.size = n * 4) 2 #[true, true, true, true, true, true, true, true, true, false, false] (fun ⟨c155, c75, g155, g75⟩ => [(1, .func (.func 63) #[] #[.pointer (some ⟨γ1 1, 0, none⟩)]), (2, .pointer (some ⟨γ3 0, 0, none⟩)), (4, .pointer (some ⟨γ3 1, 0, none⟩)), (23, .agg #[.slice (some ⟨g75, 0, none⟩) n n, .slice (some ⟨g155, 0, none⟩) m m])]) (fun ⟨c155, c75, g155, g75⟩ => [bx g155 c155 43, bx g75 c75 32, bx (γ3 1) (#[.slice none 0 0, .slice none 0 0]) 25, bx (γ3 0) (#[.slice p n cap, .slice q m capv]) 25, bx (γ1 2) (#[.slice none 0 0, .slice none 0 0]) 25, bx (γ1 1) (#[.int .i64 d.id, .int .i64 d.weight, .int .i64 d.cap, .int .i64 d.pool]) 32, bx (γ1 0) (#[.slice p n cap, .slice q m capv]) 25]) ?_ (fun hmx16 => ?_)
   ·
    rintro ⟨c155, c75, g155, g75⟩ ⟨hc155, hc75⟩
    refine a1 9 rfl ?_
    refine mo0 1 [] [1, 2, 4, 23] (fun γ195 => [(7, .pointer (some ⟨γ195 0, 0, none⟩))]) (fun γ195 L => bx (γ195 0) (#[.slice none 0 0, .slice none 0 0]) 25 :: L) (fun γ195 => ?_)
    refine od_ ?_
    exact wk (hmx17 (c155, c75, g155, g75, γ195) ⟨hc155, hc75⟩) [1, 2, 4, 7, 23] [[_], [_], [_], [_], [_], [_], [_], [_]] [0, 1, 2, 3, 4, 5, 6, 7] rfl rfl
   refine any_cutX (V := (Array Value) × (Nat) × (Nat → Nat)) (fun ⟨c155, g155, γ195⟩ => c155.size = m * 4) 3 #[true, true, true, false, true, true, true, true, false, true, false] (fun ⟨c155, g155, γ195⟩ => [(1, .func (.func 63) #[] #[.pointer (some ⟨γ1 1, 0, none⟩)]), (2, .pointer (some ⟨γ3 0, 0, none⟩)), (4, .pointer (some ⟨γ3 1, 0, none⟩)), (7, .pointer (some ⟨γ195 0, 0, none⟩)), (17, .int .i64 ((n : Nat))), (22, .slice (some ⟨g155, 0, none⟩) m m)]) (fun ⟨c155, g155, γ195⟩ => [bx (γ195 0) (#[.slice none 0 0, .slice none 0 0]) 25, bx g155 c155 43, bx (γ3 1) (#[.slice none 0 0, .slice none 0 0]) 25, bx (γ3 0) (#[.slice p n cap, .slice q m capv]) 25, bx (γ1 2) (#[.slice none 0 0, .slice none 0 0]) 25, bx (γ1 1) (#[.int .i64 d.id, .int .i64 d.weight, .int .i64 d.cap, .int .i64 d.pool]) 32, bx (γ1 0) (#[.slice p n cap, .slice q m capv]) 25]) ?_ (fun hmx15 => ?_)
   ·
    rintro ⟨c155, g155, γ195⟩ hc155
    refine a1 3 rfl ?_
    refine ops_make (T := 32) (ks := 4) (by_ := 32) (n := n) rfl (by kernel_rfl) (by kernel_rfl) (by kernel_rfl) (by kernel_rfl) (by kernel_rfl) (by omega) (by have hmx : maxLen = 9223372036854775807 := rfl; omega) (fun g75 c75 hc75 => ?_)
    refine od_ ?_
    refine tk (m := 1) [8] [] [1, 2, 4, 7] [(23, .agg #[.slice (some ⟨g75, 0, none⟩) n n, .slice (some ⟨g155, 0, none⟩) m m])] ([]) #[true, true, true, true, true, true, true, true, true, true, false] al0 ?_
    exact wk (hmx17 (c155, c75, g155, g75, γ195) ⟨hc155, hc75⟩) [1, 2, 4, 7, 23] [[_], [_], [_], [_], [_], [_], [_], [_]] [1, 2, 0, 3, 4, 5, 6, 7] rfl rfl
   refine any_cutX (V := (Array Value) × (Nat) × (Nat → Nat)) (fun ⟨c75, g75, γ195⟩ => c75.size = n * 4) 3 #[true, true, true, true, true, true, true, false, false, true, false] (fun ⟨c75, g75, γ195⟩ => [(1, .func (.func 63) #[] #[.pointer (some ⟨γ1 1, 0, none⟩)]), (2, .pointer (some ⟨γ3 0, 0, none⟩)), (4, .pointer (some ⟨γ3 1, 0, none⟩)), (7, .pointer (some ⟨γ195 0, 0, none⟩)), (18, .slice (some ⟨g75, 0, none⟩) n n), (21, .int .i64 ((m : Nat)))]) (fun ⟨c75, g75, γ195⟩ => [bx (γ195 0) (#[.slice none 0 0, .slice none 0 0]) 25, bx g75 c75 32, bx (γ3 1) (#[.slice none 0 0, .slice none 0 0]) 25, bx (γ3 0) (#[.slice p n cap, .slice q m capv]) 25, bx (γ1 2) (#[.slice none 0 0, .slice none 0 0]) 25, bx (γ1 1) (#[.int .i64 d.id, .int .i64 d.weight, .int .i64 d.cap, .int .i64 d.pool]) 32, bx (γ1 0) (#[.slice p n cap, .slice q m capv]) 25]) ?_ (fun hmx14 => ?_)
   ·
    rintro ⟨c75, g75, γ195⟩ hc75
    refine a1 7 rfl ?_
    refine ops_make (T := 43) (ks := 4) (by_ := 24) (n := m) rfl (by kernel_rfl) (by kernel_rfl) (by kernel_rfl) (by kernel_rfl) (by kernel_rfl) (by omega) (by have hmx : maxLen = 9223372036854775807 := rfl; omega) (fun g155 c155 hc155 => ?_)
    refine od_ ?_
    refine tk (m := 1) [8] [] [1, 2, 4, 7] [(23, .agg #[.slice (some ⟨g75, 0, none⟩) n n, .slice (some ⟨g155, 0, none⟩) m m])] ([]) #[true, true, true, true, true, true, true, true, true, true, false] al0 ?_
    exact wk (hmx17 (c155, c75, g155, g75, γ195) ⟨hc155, hc75⟩) [1, 2, 4, 7, 23] [[_], [_], [_], [_], [_], [_], [_], [_]] [1, 0, 2, 3, 4, 5, 6, 7] rfl rfl
   refine any_cutX (V := (Array Value) × (Nat)) (fun ⟨c155, g155⟩ => c155.size = m * 4) 4 #[true, true, true, false, true, true, true, true, false, false, false] (fun ⟨c155, g155⟩ => [(1, .func (.func 63) #[] #[.pointer (some ⟨γ1 1, 0, none⟩)]), (2, .pointer (some ⟨γ3 0, 0, none⟩)), (4, .pointer (some ⟨γ3 1, 0, none⟩)), (17, .int .i64 ((n : Nat))), (22, .slice (some ⟨g155, 0, none⟩) m m)]) (fun ⟨c155, g155⟩ => [bx g155 c155 43, bx (γ3 1) (#[.slice none 0 0, .slice none 0 0]) 25, bx (γ3 0) (#[.slice p n cap, .slice q m capv]) 25, bx (γ1 2) (#[.slice none 0 0, .slice none 0 0]) 25, bx (γ1 1) (#[.int .i64 d.id, .int .i64 d.weight, .int .i64 d.cap, .int .i64 d.pool]) 32, bx (γ1 0) (#[.slice p n cap, .slice q m capv]) 25]) ?_ (fun hmx13 => ?_)
   ·
    rintro ⟨c155, g155⟩ hc155
    refine any_fork [3, 9] (by kernel_rfl) (by simp) (each_cons _ rfl ?_ (each_cons _ rfl ?_ (each_nil)))
    ·
     refine ops_make (T := 32) (ks := 4) (by_ := 32) (n := n) rfl (by kernel_rfl) (by kernel_rfl) (by kernel_rfl) (by kernel_rfl) (by kernel_rfl) (by omega) (by have hmx : maxLen = 9223372036854775807 := rfl; omega) (fun g75 c75 hc75 => ?_)
     refine od_ ?_
     refine tk (m := 2) [8] [] [1, 2, 4] [(23, .agg #[.slice (some ⟨g75, 0, none⟩) n n, .slice (some ⟨g155, 0, none⟩) m m])] ([]) #[true, true, true, true, true, true, true, true, true, false, false] al0 ?_
     exact wk (hmx16 (c155, c75, g155, g75) ⟨hc155, hc75⟩) [1, 2, 4, 23] [[_], [_], [_], [_], [_], [_], [_]] [1, 0, 2, 3, 4, 5, 6] rfl rfl
    ·
     refine mo0 1 [] [1, 2, 4, 17, 22] (fun γ195 => [(7, .pointer (some ⟨γ195 0, 0, none⟩))]) (fun γ195 L => bx (γ195 0) (#[.slice none 0 0, .slice none 0 0]) 25 :: L) (fun γ195 => ?_)
     refine od_ ?_
     exact wk (hmx15 (c155, g155, γ195) hc155) [1, 2, 4, 7, 17, 22] [[_], [_], [_], [_], [_], [_], [_]] [0, 1, 2, 3, 4, 5, 6] rfl rfl
   refine any_cutX (V := (Array Value) × (Nat)) (fun ⟨c75, g75⟩ => c75.size = n * 4) 4 #[true, true, true, true, true, true, true, false, false, false, false] (fun ⟨c75, g75⟩ => [(1, .func (.func 63) #[] #[.pointer (some ⟨γ1 1, 0, none⟩)]), (2, .pointer (some ⟨γ3 0, 0, none⟩)), (4, .pointer (some ⟨γ3 1, 0, none⟩)), (18, .slice (some ⟨g75, 0, none⟩) n n), (21, .int .i64 ((m : Nat)))]) (fun ⟨c75, g75⟩ => [bx g75 c75 32, bx (γ3 1) (#[.slice none 0 0, .slice none 0 0]) 25, bx (γ3 0) (#[.slice p n cap, .slice q m capv]) 25, bx (γ1 2) (#[.slice none 0 0, .slice none 0 0]) 25, bx (γ1 1) (#[.int .i64 d.id, .int .i64 d.weight, .int .i64 d.cap, .int .i64 d.pool]) 32, bx (γ1 0) (#[.slice p n cap, .slice q m capv]) 25]) ?_ (fun hmx12 => ?_)
   ·
    rintro ⟨c75, g75⟩ hc75
    refine any_fork [7, 9] (by kernel_rfl) (by simp) (each_cons _ rfl ?_ (each_cons _ rfl ?_ (each_nil)))
    ·
     refine ops_make (T := 43) (ks := 4) (by_ := 24) (n := m) rfl (by kernel_rfl) (by kernel_rfl) (by kernel_rfl) (by kernel_rfl) (by kernel_rfl) (by omega) (by have hmx : maxLen = 9223372036854775807 := rfl; omega) (fun g155 c155 hc155 => ?_)
     refine od_ ?_
     refine tk (m := 2) [8] [] [1, 2, 4] [(23, .agg #[.slice (some ⟨g75, 0, none⟩) n n, .slice (some ⟨g155, 0, none⟩) m m])] ([]) #[true, true, true, true, true, true, true, true, true, false, false] al0 ?_
     exact wk (hmx16 (c155, c75, g155, g75) ⟨hc155, hc75⟩) [1, 2, 4, 23] [[_], [_], [_], [_], [_], [_], [_]] [0, 1, 2, 3, 4, 5, 6] rfl rfl
    ·
     refine mo0 1 [] [1, 2, 4, 18, 21] (fun γ195 => [(7, .pointer (some ⟨γ195 0, 0, none⟩))]) (fun γ195 L => bx (γ195 0) (#[.slice none 0 0, .slice none 0 0]) 25 :: L) (fun γ195 => ?_)
     refine od_ ?_
     exact wk (hmx14 (c75, g75, γ195) hc75) [1, 2, 4, 7, 18, 21] [[_], [_], [_], [_], [_], [_], [_]] [0, 1, 2, 3, 4, 5, 6] rfl rfl
   refine any_cutX (V := (Nat → Nat)) (fun γ195 => True) 4 #[true, true, true, false, true, true, true, false, false, true, false] (fun γ195 => [(1, .func (.func 63) #[] #[.pointer (some ⟨γ1 1, 0, none⟩)]), (2, .pointer (some ⟨γ3 0, 0, none⟩)), (4, .pointer (some ⟨γ3 1, 0, none⟩)), (7, .pointer (some ⟨γ195 0, 0, none⟩)), (17, .int .i64 ((n : Nat))), (21, .int .i64 ((m : Nat)))]) (fun γ195 => [bx (γ195 0) (#[.slice none 0 0, .slice none 0 0]) 25, bx (γ3 1) (#[.slice none 0 0, .slice none 0 0]) 25, bx (γ3 0) (#[.slice p n cap, .slice q m capv]) 25, bx (γ1 2) (#[.slice none 0 0, .slice none 0 0]) 25, bx (γ1 1) (#[.int .i64 d.id, .int .i64 d.weight, .int .i64 d.cap, .int .i64 d.pool]) 32, bx (γ1 0) (#[.slice p n cap, .slice q m capv]) 25]) ?_ (fun hmx11 => ?_)
   ·
    rintro γ195 _
    refine any_fork [3, 7] (by kernel_rfl) (by simp) (each_cons _ rfl ?_ (each_cons _ rfl ?_ (each_nil)))
    ·
     refine ops_make (T := 32) (ks := 4) (by_ := 32) (n := n) rfl (by kernel_rfl) (by kernel_rfl) (by kernel_rfl) (by kernel_rfl) (by kernel_rfl) (by omega) (by have hmx : maxLen = 9223372036854775807 := rfl; omega) (fun g75 c75 hc75 => ?_)
     refine od_ ?_
     exact wk (hmx14 (c75, g75, γ195) hc75) [1, 2, 4, 7, 18, 21] [[_], [_], [_], [_], [_], [_], [_]] [1, 0, 2, 3, 4, 5, 6] rfl rfl
    ·
     refine ops_make (T := 43) (ks := 4) (by_ := 24) (n := m) rfl (by kernel_rfl) (by kernel_rfl) (by kernel_rfl) (by kernel_rfl) (by kernel_rfl) (by omega) (by have hmx : maxLen = 9223372036854775807 := rfl; omega) (fun g155 c155 hc155 => ?_)
     refine od_ ?_
     exact wk (hmx15 (c155, g155, γ195) hc155) [1, 2, 4, 7, 17, 22] [[_], [_], [_], [_], [_], [_], [_]] [1, 0, 2, 3, 4, 5, 6] rfl rfl
   refine any_cutX (V := (Array Value) × (Nat) × (Nat → Nat)) (fun ⟨c155, g155, γ195⟩ => c155.size = m * 4) 5 #[true, false, false, false, true, true, true, true, false, true, false] (fun ⟨c155, g155, γ195⟩ => [(1, .func (.func 63) #[] #[.pointer (some ⟨γ1 1, 0, none⟩)]), (2, .pointer (some ⟨γ3 0, 0, none⟩)), (4, .pointer (some ⟨γ3 1, 0, none⟩)), (7, .pointer (some ⟨γ195 0, 0, none⟩)), (15, .pointer (some ⟨γ3 0, 0, none⟩)), (22, .slice (some ⟨g155, 0, none⟩) m m)]) (fun ⟨c155, g155, γ195⟩ => [bx (γ195 0) (#[.slice none 0 0, .slice none 0 0]) 25, bx g155 c155 43, bx (γ3 1) (#[.slice none 0 0, .slice none 0 0]) 25, bx (γ3 0) (#[.slice p n cap, .slice q m capv]) 25, bx (γ1 2) (#[.slice none 0 0, .slice none 0 0]) 25, bx (γ1 1) (#[.int .i64 d.id, .int .i64 d.weight, .int .i64 d.cap, .int .i64 d.pool]) 32, bx (γ1 0) (#[.slice p n cap, .slice q m capv]) 25]) ?_ (fun hmx10 => ?_)
   ·
    rintro ⟨c155, g155, γ195⟩ hc155
    refine a1 1 rfl ?_
    refine qo0 1 [(1, .go (owns 3 0 1))] [1, 2, 4, 7, 22] [(16, .slice p n cap)] ?_
    refine od_ ?_
    refine tk (m := 3) [2] [] [1, 2, 4, 7, 22] [(17, .int .i64 ((n : Nat)))] ([]) #[true, true, true, false, true, true, true, true, false, true, false] al0 ?_
    exact wk (hmx15 (c155, g155, γ195) hc155) [1, 2, 4, 7, 17, 22] [[_], [_], [_], [_], [_], [_], [_]] [0, 1, 2, 3, 4, 5, 6] rfl rfl
   refine any_cutX (V := (Array Value) × (Nat) × (Nat → Nat)) (fun ⟨c75, g75, γ195⟩ => c75.size = n * 4) 5 #[true, true, true, true, true, false, false, false, false, true, false] (fun ⟨c75, g75, γ195⟩ => [(1, .func (.func 63) #[] #[.pointer (some ⟨γ1 1, 0, none⟩)]), (2, .pointer (some ⟨γ3 0, 0, none⟩)), (4, .pointer (some ⟨γ3 1, 0, none⟩)), (7, .pointer (some ⟨γ195 0, 0, none⟩)), (18, .slice (some ⟨g75, 0, none⟩) n n), (19, .pointer (some ⟨γ3 0, 1, none⟩))]) (fun ⟨c75, g75, γ195⟩ => [bx (γ195 0) (#[.slice none 0 0, .slice none 0 0]) 25, bx g75 c75 32, bx (γ3 1) (#[.slice none 0 0, .slice none 0 0]) 25, bx (γ3 0) (#[.slice p n cap, .slice q m capv]) 25, bx (γ1 2) (#[.slice none 0 0, .slice none 0 0]) 25, bx (γ1 1) (#[.int .i64 d.id, .int .i64 d.weight, .int .i64 d.cap, .int .i64 d.pool]) 32, bx (γ1 0) (#[.slice p n cap, .slice q m capv]) 25]) ?_ (fun hmx9 => ?_)
   ·
    rintro ⟨c75, g75, γ195⟩ hc75
    refine a1 5 rfl ?_
    refine qo0 1 [(5, .go (owns 3 1 1))] [1, 2, 4, 7, 18] [(20, .slice q m capv)] ?_
    refine od_ ?_
    refine tk (m := 3) [6] [] [1, 2, 4, 7, 18] [(21, .int .i64 ((m : Nat)))] ([]) #[true, true, true, true, true, true, true, false, false, true, false] al0 ?_
    exact wk (hmx14 (c75, g75, γ195) hc75) [1, 2, 4, 7, 18, 21] [[_], [_], [_], [_], [_], [_], [_]] [0, 1, 2, 3, 4, 5, 6] rfl rfl
   refine any_cutX (V := Unit) (fun _ => True) 5 #[true, true, true, false, true, true, true, false, false, false, false] (fun _ => [(1, .func (.func 63) #[] #[.pointer (some ⟨γ1 1, 0, none⟩)]), (2, .pointer (some ⟨γ3 0, 0, none⟩)), (4, .pointer (some ⟨γ3 1, 0, none⟩)), (17, .int .i64 ((n : Nat))), (21, .int .i64 ((m : Nat)))]) (fun _ => [bx (γ3 1) (#[.slice none 0 0, .slice none 0 0]) 25, bx (γ3 0) (#[.slice p n cap, .slice q m capv]) 25, bx (γ1 2) (#[.slice none 0 0, .slice none 0 0]) 25, bx (γ1 1) (#[.int .i64 d.id, .int .i64 d.weight, .int .i64 d.cap, .int .i64 d.pool]) 32, bx (γ1 0) (#[.slice p n cap, .slice q m capv]) 25]) ?_ (fun hmx8 => ?_)
   ·
    rintro _ _
    refine any_fork [3, 7, 9] (by kernel_rfl) (by simp) (each_cons _ rfl ?_ (each_cons _ rfl ?_ (each_cons _ rfl ?_ (each_nil))))
    ·
     refine ops_make (T := 32) (ks := 4) (by_ := 32) (n := n) rfl (by kernel_rfl) (by kernel_rfl) (by kernel_rfl) (by kernel_rfl) (by kernel_rfl) (by omega) (by have hmx : maxLen = 9223372036854775807 := rfl; omega) (fun g75 c75 hc75 => ?_)
     refine od_ ?_
     exact wk (hmx12 (c75, g75) hc75) [1, 2, 4, 18, 21] [[_], [_], [_], [_], [_], [_]] [0, 1, 2, 3, 4, 5] rfl rfl
    ·
     refine ops_make (T := 43) (ks := 4) (by_ := 24) (n := m) rfl (by kernel_rfl) (by kernel_rfl) (by kernel_rfl) (by kernel_rfl) (by kernel_rfl) (by omega) (by have hmx : maxLen = 9223372036854775807 := rfl; omega) (fun g155 c155 hc155 => ?_)
     refine od_ ?_
     exact wk (hmx13 (c155, g155) hc155) [1, 2, 4, 17, 22] [[_], [_], [_], [_], [_], [_]] [0, 1, 2, 3, 4, 5] rfl rfl
    ·
     refine mo0 1 [] [1, 2, 4, 17, 21] (fun γ195 => [(7, .pointer (some ⟨γ195 0, 0, none⟩))]) (fun γ195 L => bx (γ195 0) (#[.slice none 0 0, .slice none 0 0]) 25 :: L) (fun γ195 => ?_)
     refine od_ ?_
     exact wk (hmx11 γ195 trivial) [1, 2, 4, 7, 17, 21] [[_], [_], [_], [_], [_], [_]] [0, 1, 2, 3, 4, 5] rfl rfl
   refine any_cutX (V := (Array Value) × (Nat)) (fun ⟨c155, g155⟩ => c155.size = m * 4) 6 #[true, false, false, false, true, true, true, true, false, false, false] (fun ⟨c155, g155⟩ => [(1, .func (.func 63) #[] #[.pointer (some ⟨γ1 1, 0, none⟩)]), (2, .pointer (some ⟨γ3 0, 0, none⟩)), (4, .pointer (some ⟨γ3 1, 0, none⟩)), (15, .pointer (some ⟨γ3 0, 0, none⟩)), (22, .slice (some ⟨g155, 0, none⟩) m m)]) (fun ⟨c155, g155⟩ => [bx g155 c155 43, bx (γ3 1) (#[.slice none 0 0, .slice none 0 0]) 25, bx (γ3 0) (#[.slice p n cap, .slice q m capv]) 25, bx (γ1 2) (#[.slice none 0 0, .slice none 0 0]) 25, bx (γ1 1) (#[.int .i64 d.id, .int .i64 d.weight, .int .i64 d.cap, .int .i64 d.pool]) 32, bx (γ1 0) (#[.slice p n cap, .slice q m capv]) 25]) ?_ (fun hmx7 => ?_)
   ·
    rintro ⟨c155, g155⟩ hc155
    refine any_fork [1, 9] (by kernel_rfl) (by simp) (each_cons _ rfl ?_ (each_cons _ rfl ?_ (each_nil)))
    ·
     refine qo0 1 [(1, .go (owns 2 0 1))] [1, 2, 4, 22] [(16, .slice p n cap)] ?_
     refine od_ ?_
     refine tk (m := 4) [2] [] [1, 2, 4, 22] [(17, .int .i64 ((n : Nat)))] ([]) #[true, true, true, false, true, true, true, true, false, false, false] al0 ?_
     exact wk (hmx13 (c155, g155) hc155) [1, 2, 4, 17, 22] [[_], [_], [_], [_], [_], [_]] [0, 1, 2, 3, 4, 5] rfl rfl
    ·
     refine mo0 1 [] [1, 2, 4, 15, 22] (fun γ195 => [(7, .pointer (some ⟨γ195 0, 0, none⟩))]) (fun γ195 L => bx (γ195 0) (#[.slice none 0 0, .slice none 0 0]) 25 :: L) (fun γ195 => ?_)
     refine od_ ?_
     exact wk (hmx10 (c155, g155, γ195) hc155) [1, 2, 4, 7, 15, 22] [[_], [_], [_], [_], [_], [_], [_]] [0, 1, 2, 3, 4, 5, 6] rfl rfl
   refine any_cutX (V := (Array Value) × (Nat)) (fun ⟨c75, g75⟩ => c75.size = n * 4) 6 #[true, true, true, true, true, false, false, false, false, false, false] (fun ⟨c75, g75⟩ => [(1, .func (.func 63) #[] #[.pointer (some ⟨γ1 1, 0, none⟩)]), (2, .pointer (some ⟨γ3 0, 0, none⟩)), (4, .pointer (some ⟨γ3 1, 0, none⟩)), (18, .slice (some ⟨g75, 0, none⟩) n n), (19, .pointer (some ⟨γ3 0, 1, none⟩))]) (fun ⟨c75, g75⟩ => [bx g75 c75 32, bx (γ3 1) (#[.slice none 0 0, .slice none 0 0]) 25, bx (γ3 0) (#[.slice p n cap, .slice q m capv]) 25, bx (γ1 2) (#[.slice none 0 0, .slice none 0 0]) 25, bx (γ1 1) (#[.int .i64 d.id, .int .i64 d.weight, .int .i64 d.cap, .int .i64 d.pool]) 32, bx (γ1 0) (#[.slice p n cap, .slice q m capv]) 25]) ?_ (fun hmx6 => ?_)
   ·
    rintro ⟨c75, g75⟩ hc75
    refine any_fork [5, 9] (by kernel_rfl) (by simp) (each_cons _ rfl ?_ (each_cons _ rfl ?_ (each_nil)))
    ·
     refine qo0 1 [(5, .go (owns 2 1 1))] [1, 2, 4, 18] [(20, .slice q m capv)] ?_
     refine od_ ?_
     refine tk (m := 4) [6] [] [1, 2, 4, 18] [(21, .int .i64 ((m : Nat)))] ([]) #[true, true, true, true, true, true, true, false, false, false, false] al0 ?_
     exact wk (hmx12 (c75, g75) hc75) [1, 2, 4, 18, 21] [[_], [_], [_], [_], [_], [_]] [0, 1, 2, 3, 4, 5] rfl rfl
    ·
     refine mo0 1 [] [1, 2, 4, 18, 19] (fun γ195 => [(7, .pointer (some ⟨γ195 0, 0, none⟩))]) (fun γ195 L => bx (γ195 0) (#[.slice none 0 0, .slice none 0 0]) 25 :: L) (fun γ195 => ?_)
     refine od_ ?_
     exact wk (hmx9 (c75, g75, γ195) hc75) [1, 2, 4, 7, 18, 19] [[_], [_], [_], [_], [_], [_], [_]] [0, 1, 2, 3, 4, 5, 6] rfl rfl
   refine any_cutX (V := (Nat → Nat)) (fun γ195 => True) 6 #[true, false, false, false, true, true, true, false, false, true, false] (fun γ195 => [(1, .func (.func 63) #[] #[.pointer (some ⟨γ1 1, 0, none⟩)]), (2, .pointer (some ⟨γ3 0, 0, none⟩)), (4, .pointer (some ⟨γ3 1, 0, none⟩)), (7, .pointer (some ⟨γ195 0, 0, none⟩)), (15, .pointer (some ⟨γ3 0, 0, none⟩)), (21, .int .i64 ((m : Nat)))]) (fun γ195 => [bx (γ195 0) (#[.slice none 0 0, .slice none 0 0]) 25, bx (γ3 1) (#[.slice none 0 0, .slice none 0 0]) 25, bx (γ3 0) (#[.slice p n cap, .slice q m capv]) 25, bx (γ1 2) (#[.slice none 0 0, .slice none 0 0]) 25, bx (γ1 1) (#[.int .i64 d.id, .int .i64 d.weight, .int .i64 d.cap, .int .i64 d.pool]) 32, bx (γ1 0) (#[.slice p n cap, .slice q m capv]) 25]) ?_ (fun hmx5 => ?_)
   ·
    rintro γ195 _
    refine any_fork [1, 7] (by kernel_rfl) (by simp) (each_cons _ rfl ?_ (each_cons _ rfl ?_ (each_nil)))
    ·
     refine qo0 1 [(1, .go (owns 2 0 1))] [1, 2, 4, 7, 21] [(16, .slice p n cap)] ?_
     refine od_ ?_
     refine tk (m := 4) [2] [] [1, 2, 4, 7, 21] [(17, .int .i64 ((n : Nat)))] ([]) #[true, true, true, false, true, true, true, false, false, true, false] al0 ?_
     exact wk (hmx11 γ195 trivial) [1, 2, 4, 7, 17, 21] [[_], [_], [_], [_], [_], [_]] [0, 1, 2, 3, 4, 5] rfl rfl
    ·
     refine ops_make (T := 43) (ks := 4) (by_ := 24) (n := m) rfl (by kernel_rfl) (by kernel_rfl) (by kernel_rfl) (by kernel_rfl) (by kernel_rfl) (by omega) (by have hmx : maxLen = 9223372036854775807 := rfl; omega) (fun g155 c155 hc155 => ?_)
     refine od_ ?_
     exact wk (hmx10 (c155, g155, γ195) hc155) [1, 2, 4, 7, 15, 22] [[_], [_], [_], [_], [_], [_], [_]] [1, 0, 2, 3, 4, 5, 6] rfl rfl
   refine any_cutX (V := (Nat → Nat)) (fun γ195 => True) 6 #[true, true, true, false, true, false, false, false, false, true, false] (fun γ195 => [(1, .func (.func 63) #[] #[.pointer (some ⟨γ1 1, 0, none⟩)]), (2, .pointer (some ⟨γ3 0, 0, none⟩)), (4, .pointer (some ⟨γ3 1, 0, none⟩)), (7, .pointer (some ⟨γ195 0, 0, none⟩)), (17, .int .i64 ((n : Nat))), (19, .pointer (some ⟨γ3 0, 1, none⟩))]) (fun γ195 => [bx (γ195 0) (#[.slice none 0 0, .slice none 0 0]) 25, bx (γ3 1) (#[.slice none 0 0, .slice none 0 0]) 25, bx (γ3 0) (#[.slice p n cap, .slice q m capv]) 25, bx (γ1 2) (#[.slice none 0 0, .slice none 0 0]) 25, bx (γ1 1) (#[.int .i64 d.id, .int .i64 d.weight, .int .i64 d.cap, .int .i64 d.pool]) 32, bx (γ1 0) (#[.slice p n cap, .slice q m capv]) 25]) ?_ (fun hmx4 => ?_)
   ·
    rintro γ195 _
    refine any_fork [3, 5] (by kernel_rfl) (by simp) (each_cons _ rfl ?_ (each_cons _ rfl ?_ (each_nil)))
    ·
     refine ops_make (T := 32) (ks := 4) (by_ := 32) (n := n) rfl (by kernel_rfl) (by kernel_rfl) (by kernel_rfl) (by kernel_rfl) (by kernel_rfl) (by omega) (by have hmx : maxLen = 9223372036854775807 := rfl; omega) (fun g75 c75 hc75 => ?_)
     refine od_ ?_
     exact wk (hmx9 (c75, g75, γ195) hc75) [1, 2, 4, 7, 18, 19] [[_], [_], [_], [_], [_], [_], [_]] [1, 0, 2, 3, 4, 5, 6] rfl rfl
    ·
     refine qo0 1 [(5, .go (owns 2 1 1))] [1, 2, 4, 7, 17] [(20, .slice q m capv)] ?_
     refine od_ ?_
     refine tk (m := 4) [6] [] [1, 2, 4, 7, 17] [(21, .int .i64 ((m : Nat)))] ([]) #[true, true, true, false, true, true, true, false, false, true, false] al0 ?_
     exact wk (hmx11 γ195 trivial) [1, 2, 4, 7, 17, 21] [[_], [_], [_], [_], [_], [_]] [0, 1, 2, 3, 4, 5] rfl rfl
   refine any_cutX (V := Unit) (fun _ => True) 7 #[true, false, false, false, true, true, true, false, false, false, false] (fun _ => [(1, .func (.func 63) #[] #[.pointer (some ⟨γ1 1, 0, none⟩)]), (2, .pointer (some ⟨γ3 0, 0, none⟩)), (4, .pointer (some ⟨γ3 1, 0, none⟩)), (15, .pointer (some ⟨γ3 0, 0, none⟩)), (21, .int .i64 ((m : Nat)))]) (fun _ => [bx (γ3 1) (#[.slice none 0 0, .slice none 0 0]) 25, bx (γ3 0) (#[.slice p n cap, .slice q m capv]) 25, bx (γ1 2) (#[.slice none 0 0, .slice none 0 0]) 25, bx (γ1 1) (#[.int .i64 d.id, .int .i64 d.weight, .int .i64 d.cap, .int .i64 d.pool]) 32, bx (γ1 0) (#[.slice p n cap, .slice q m capv]) 25]) ?_ (fun hmx3 => ?_)
   ·
    rintro _ _
    refine any_fork [1, 7, 9] (by kernel_rfl) (by simp) (each_cons _ rfl ?_ (each_cons _ rfl ?_ (each_cons _ rfl ?_ (each_nil))))
    ·
     refine qo0 1 [(1, .go (owns 1 0 1))] [1, 2, 4, 21] [(16, .slice p n cap)] ?_
     refine od_ ?_
     refine tk (m := 5) [2] [] [1, 2, 4, 21] [(17, .int .i64 ((n : Nat)))] ([]) #[true, true, true, false, true, true, true, false, false, false, false] al0 ?_
     exact wk (hmx8 () trivial) [1, 2, 4, 17, 21] [[_], [_], [_], [_], [_]] [0, 1, 2, 3, 4] rfl rfl
    ·
     refine ops_make (T := 43) (ks := 4) (by_ := 24) (n := m) rfl (by kernel_rfl) (by kernel_rfl) (by kernel_rfl) (by kernel_rfl) (by kernel_rfl) (by omega) (by have hmx : maxLen = 9223372036854775807 := rfl; omega) (fun g155 c155 hc155 => ?_)
     refine od_ ?_
     exact wk (hmx7 (c155, g155) hc155) [1, 2, 4, 15, 22] [[_], [_], [_], [_], [_], [_]] [0, 1, 2, 3, 4, 5] rfl rfl
    ·
     refine mo0 1 [] [1, 2, 4, 15, 21] (fun γ195 => [(7, .pointer (some ⟨γ195 0, 0, none⟩))]) (fun γ195 L => bx (γ195 0) (#[.slice none 0 0, .slice none 0 0]) 25 :: L) (fun γ195 => ?_)
     refine od_ ?_
     exact wk (hmx5 γ195 trivial) [1, 2, 4, 7, 15, 21] [[_], [_], [_], [_], [_], [_]] [0, 1, 2, 3, 4, 5] rfl rfl
   refine any_cutX (V := Unit) (fun _ => True) 7 #[true, true, true, false, true, false, false, false, false, false, false] (fun _ => [(1, .func (.func 63) #[] #[.pointer (some ⟨γ1 1, 0, none⟩)]), (2, .pointer (some ⟨γ3 0, 0, none⟩)), (4, .pointer (some ⟨γ3 1, 0, none⟩)), (17, .int .i64 ((n : Nat))), (19, .pointer (some ⟨γ3 0, 1, none⟩))]) (fun _ => [bx (γ3 1) (#[.slice none 0 0, .slice none 0 0]) 25, bx (γ3 0) (#[.slice p n cap, .slice q m capv]) 25, bx (γ1 2) (#[.slice none 0 0, .slice none 0 0]) 25, bx (γ1 1) (#[.int .i64 d.id, .int .i64 d.weight, .int .i64 d.cap, .int .i64 d.pool]) 32, bx (γ1 0) (#[.slice p n cap, .slice q m capv]) 25]) ?_ (fun hmx2 => ?_)
   ·
    rintro _ _
    refine any_fork [3, 5, 9] (by kernel_rfl) (by simp) (each_cons _ rfl ?_ (each_cons _ rfl ?_ (each_cons _ rfl ?_ (each_nil))))
    ·
     refine ops_make (T := 32) (ks := 4) (by_ := 32) (n := n) rfl (by kernel_rfl) (by kernel_rfl) (by kernel_rfl) (by kernel_rfl) (by kernel_rfl) (by omega) (by have hmx : maxLen = 9223372036854775807 := rfl; omega) (fun g75 c75 hc75 => ?_)
     refine od_ ?_
     exact wk (hmx6 (c75, g75) hc75) [1, 2, 4, 18, 19] [[_], [_], [_], [_], [_], [_]] [0, 1, 2, 3, 4, 5] rfl rfl
    ·
     refine qo0 1 [(5, .go (owns 1 1 1))] [1, 2, 4, 17] [(20, .slice q m capv)] ?_
     refine od_ ?_
     refine tk (m := 5) [6] [] [1, 2, 4, 17] [(21, .int .i64 ((m : Nat)))] ([]) #[true, true, true, false, true, true, true, false, false, false, false] al0 ?_
     exact wk (hmx8 () trivial) [1, 2, 4, 17, 21] [[_], [_], [_], [_], [_]] [0, 1, 2, 3, 4] rfl rfl
    ·
     refine mo0 1 [] [1, 2, 4, 17, 19] (fun γ195 => [(7, .pointer (some ⟨γ195 0, 0, none⟩))]) (fun γ195 L => bx (γ195 0) (#[.slice none 0 0, .slice none 0 0]) 25 :: L) (fun γ195 => ?_)
     refine od_ ?_
     exact wk (hmx4 γ195 trivial) [1, 2, 4, 7, 17, 19] [[_], [_], [_], [_], [_], [_]] [0, 1, 2, 3, 4, 5] rfl rfl
   refine any_cutX (V := (Nat → Nat)) (fun γ195 => True) 8 #[true, false, false, false, true, false, false, false, false, true, false] (fun γ195 => [(1, .func (.func 63) #[] #[.pointer (some ⟨γ1 1, 0, none⟩)]), (2, .pointer (some ⟨γ3 0, 0, none⟩)), (4, .pointer (some ⟨γ3 1, 0, none⟩)), (7, .pointer (some ⟨γ195 0, 0, none⟩)), (15, .pointer (some ⟨γ3 0, 0, none⟩)), (19, .pointer (some ⟨γ3 0, 1, none⟩))]) (fun γ195 => [bx (γ195 0) (#[.slice none 0 0, .slice none 0 0]) 25, bx (γ3 1) (#[.slice none 0 0, .slice none 0 0]) 25, bx (γ3 0) (#[.slice p n cap, .slice q m capv]) 25, bx (γ1 2) (#[.slice none 0 0, .slice none 0 0]) 25, bx (γ1 1) (#[.int .i64 d.id, .int .i64 d.weight, .int .i64 d.cap, .int .i64 d.pool]) 32, bx (γ1 0) (#[.slice p n cap, .slice q m capv]) 25]) ?_ (fun hmx1 => ?_)
   ·
    rintro γ195 _
    refine any_fork [1, 5] (by kernel_rfl) (by simp) (each_cons _ rfl ?_ (each_cons _ rfl ?_ (each_nil)))
    ·
     refine qo0 1 [(1, .go (owns 2 0 1))] [1, 2, 4, 7, 19] [(16, .slice p n cap)] ?_
     refine od_ ?_
     refine tk (m := 6) [2] [] [1, 2, 4, 7, 19] [(17, .int .i64 ((n : Nat)))] ([]) #[true, true, true, false, true, false, false, false, false, true, false] al0 ?_
     exact wk (hmx4 γ195 trivial) [1, 2, 4, 7, 17, 19] [[_], [_], [_], [_], [_], [_]] [0, 1, 2, 3, 4, 5] rfl rfl
    ·
     refine qo0 1 [(5, .go (owns 2 1 1))] [1, 2, 4, 7, 15] [(20, .slice q m capv)] ?_
     refine od_ ?_
     refine tk (m := 6) [6] [] [1, 2, 4, 7, 15] [(21, .int .i64 ((m : Nat)))] ([]) #[true, false, false, false, true, true, true, false, false, true, false] al0 ?_
     exact wk (hmx5 γ195 trivial) [1, 2, 4, 7, 15, 21] [[_], [_], [_], [_], [_], [_]] [0, 1, 2, 3, 4, 5] rfl rfl
   refine any_fork [1, 5, 9] (by kernel_rfl) (by simp) (each_cons _ rfl ?_ (each_cons _ rfl ?_ (each_cons _ rfl ?_ (each_nil))))
   ·
    refine qo0 1 [(1, .go (owns 1 0 1))] [1, 2, 4, 19] [(16, .slice p n cap)] ?_
    refine od_ ?_
    refine tk (m := 7) [2] [] [1, 2, 4, 19] [(17, .int .i64 ((n : Nat)))] ([]) #[true, true, true, false, true, false, false, false, false, false, false] al0 ?_
    exact wk (hmx2 () trivial) [1, 2, 4, 17, 19] [[_], [_], [_], [_], [_]] [0, 1, 2, 3, 4] rfl rfl
   ·
    refine qo0 1 [(5, .go (owns 1 1 1))] [1, 2, 4, 15] [(20, .slice q m capv)] ?_
    refine od_ ?_
    refine tk (m := 7) [6] [] [1, 2, 4, 15] [(21, .int .i64 ((m : Nat)))] ([]) #[true, false, false, false, true, true, true, false, false, false, false] al0 ?_
    exact wk (hmx3 () trivial) [1, 2, 4, 15, 21] [[_], [_], [_], [_], [_]] [0, 1, 2, 3, 4] rfl rfl
   ·
    refine mo0 1 [] [1, 2, 4, 15, 19] (fun γ195 => [(7, .pointer (some ⟨γ195 0, 0, none⟩))]) (fun γ195 L => bx (γ195 0) (#[.slice none 0 0, .slice none 0 0]) 25 :: L) (fun γ195 => ?_)
    refine od_ ?_
    exact wk (hmx1 γ195 trivial) [1, 2, 4, 7, 15, 19] [[_], [_], [_], [_], [_], [_]] [0, 1, 2, 3, 4, 5] rfl rfl
  rintro ⟨c155, c75, g155, g75, γ195⟩ ⟨hc155, hc75⟩
  refine any_nil (by kernel_rfl) ?_
  refine ds_ (sq_ (ao_ (qo0 4 [(1, .go (owns 0 0 1)), (3, .go (owns 4 0 1))] [1, 2, 4, 7] [(25, .slice (some ⟨g75, 0, none⟩) n n), (27, .slice p n cap)] (ops_copy 2 rfl (by kernel_rfl) (by kernel_rfl) (g := g75) (of := 0) (dn := n) (dc := n) (m := n) (cnt := n) (c := c75) (yv := (.slice p n cap)) (ds.flatMap Enc.enc) (by kernel_rfl) (by kernel_rfl) (T := 32) (ks := 4) (by_ := 32) (by kernel_rfl) (T' := 32) (by kernel_rfl) len_slice (by omega) (fun w hw => by have := first_sv (P := Try.prog) (w := w) (p := p) (m := n) (cap := cap) (cnt := n) (hds.kept hw.below) (by omega); rw [List.take_of_length_le (by omega)] at this; exact this) (by first | (rw [flat_len, Nat.zero_add, hc75, ← hn]; exact Nat.le_refl _) | (rw [flat_len, Nat.zero_add, hc75, ← hn])) (flat_one ds) ?_))))
  have hOw303 := OwnS.filled (l := ds) (n := n) hc75 hn (by have hmx : maxLen = 9223372036854775807 := rfl; omega)
  have hO303 := SlO.ofOwn (T := 32) (g := g75) hOw303 hn
  refine on_ (ds_ (sq_ (ao_ (qo0 4 [(1, .go (owns 0 1 1)), (3, .go (owns 4 1 1))] [1, 4, 7] [(30, .slice (some ⟨g155, 0, none⟩) m m), (32, .slice q m capv)] (ops_copy 1 rfl (by kernel_rfl) (by kernel_rfl) (g := g155) (of := 0) (dn := m) (dc := m) (m := m) (cnt := m) (c := c155) (yv := (.slice q m capv)) (vs.flatMap Enc.enc) (by kernel_rfl) (by kernel_rfl) (T := 43) (ks := 4) (by_ := 24) (by kernel_rfl) (T' := 43) (by kernel_rfl) len_slice (by omega) (fun w hw => by have := first_sv (P := Try.prog) (w := w) (p := q) (m := m) (cap := capv) (cnt := m) (hvs.kept hw.below) (by omega); rw [List.take_of_length_le (by omega)] at this; exact this) (by first | (rw [flat_len, Nat.zero_add, hc155, ← hm]; exact Nat.le_refl _) | (rw [flat_len, Nat.zero_add, hc155, ← hm])) (flat_one vs) ?_)))))
  have hOw306 := OwnS.filled (l := vs) (n := m) hc155 hm (by have hmx : maxLen = 9223372036854775807 := rfl; omega)
  have hO306 := SlO.ofOwn (T := 43) (g := g155) hOw306 hm
  refine on_ (ds_ (sq_ (sq_ (ao_ (qo0 1 [] [4, 7] [(34, .func (.func 63) #[] #[.pointer (some ⟨γ1 1, 0, none⟩)])] (ops_inline (g := 63) (args := #[.pointer (some ⟨γ195 0, 0, none⟩), .pointer (some ⟨γ1 1, 0, none⟩)]) (by kernel_rfl) (by kernel_rfl) (by kernel_rfl) (fun args w => Try.call63 args w) Try.func63 rfl Try.ntmps63 rfl (sq_ (qa0 [] [0, 1] [] (ds_ (sq_ ?_))))))))))
  refine at_calm rfl (by kernel_rfl) (by kernel_rfl) ?_
  refine cm 6 [(3, .go (owns 0 0 1)), (5, .go (owns 6 0 1))] [0, 1] [(10, .slice (some ⟨g75, 0, none⟩) n n), (12, .int .i64 d.id)] ([]) (by kernel_rfl) rfl al0 ?_
  rcases hg311 : getK Dom.id ds d.id with _ | y311
  ·
   have hpl311 := (pos_cut (k := d.id) (guests_iff.1 q5).dr).2.2
   refine cK (.tuple #[.int .i64 ((posK Dom.id ds d.id : Nat)), .bool false]) Try.call47 (fun w hw => by have := placed_d (some ⟨g75, 0, none⟩) n n ds d.id w (hO303.atN (A := [_, _]) hw) hn (by omega) (guests_iff.1 q5).dr; rw [hasK_none hg311] at this; exact this) ?_
   refine cm 5 [] [0, 1] [(4, .int .i64 ((posK Dom.id ds d.id : Nat))), (5, .bool false)] ([]) (by kernel_rfl) rfl al0 ?_
   refine calm_nil' ?_
   refine ds_ (sq_ (at_block (sq_ (ao_ (qo0 1 [(0, .go (owns 6 0 4))] [0, 1, 4, 5] [(17, .agg #[.int .i64 d.id, .int .i64 d.weight, .int .i64 d.cap, .int .i64 d.pool])] ?_)))))
   rcases q314 : mayB d with _ | _
   ·
    refine cD (.bool false) Try.call45 (fun w hw => by have := may_d d w; rw [q314] at this; exact this) (qo0 2 [] [0, 1, 4, 5] [(16, .bool true)] (on_ (ds_ (t_ (sq_ (qa0 [] [] [(3, .int .i64 2)] (ds_ (bk ([]) (.int .i64 2) (qo0 1 [] [4, 7] [(8, .int .i64 2)] (on_ (ds_ (sq_ (qa0 [] [4, 7, 8] [(37, .bool true)] (ds_ (t_ (sq_ (qa0 [(2, .go (owns 3 0 2))] [4] [(5, .int .i64 2)] (ds_ (bk (owns 3 0 2) (.tuple #[.agg #[.slice none 0 0, .slice none 0 0], .int .i64 2]) (qo0 4 [(5, .go (owns 5 0 2))] [4] [(5, .int .i64 2)] (on_ (ds_ (rt (owns 5 0 2) (.tuple #[.agg #[.slice none 0 0, .slice none 0 0], .int .i64 2]) ?_)))))))))))))))))))))))
    exact fun w' hw => by rw [changeV_arg q5 q314]; exact ⟨none, 0, 0, [], none, 0, 0, [], rfl, SlO.nil, SlO.nil, hw.below, hw.sub (List.nil_sublist _)⟩
   ·
    refine cD (.bool true) Try.call45 (fun w hw => by have := may_d d w; rw [q314] at this; exact this) (qo0 2 [] [0, 1, 4, 5] [(16, .bool false)] (on_ (ds_ (f_ (sq_ (qa0 [] [0, 1, 4] [(20, .bool true)] (ds_ (t_ (sq_ (qa0 [] [] [(3, .int .i64 4)] (ds_ (bk ([]) (.int .i64 4) (qo0 1 [] [4, 7] [(8, .int .i64 4)] (on_ (ds_ (sq_ (qa0 [] [4, 7, 8] [(37, .bool true)] (ds_ (t_ (sq_ (qa0 [(2, .go (owns 3 0 2))] [4] [(5, .int .i64 4)] (ds_ (bk (owns 3 0 2) (.tuple #[.agg #[.slice none 0 0, .slice none 0 0], .int .i64 4]) (qo0 4 [(5, .go (owns 5 0 2))] [4] [(5, .int .i64 4)] (on_ (ds_ (rt (owns 5 0 2) (.tuple #[.agg #[.slice none 0 0, .slice none 0 0], .int .i64 4]) ?_)))))))))))))))))))))))))))
    exact fun w' hw => by rw [changeV_none q5 q314 hg311]; exact ⟨none, 0, 0, [], none, 0, 0, [], rfl, SlO.nil, SlO.nil, hw.below, hw.sub (List.nil_sublist _)⟩
  ·
   have hp_y311 := pos_getK (guests_iff.1 q5).dr hg311
   have hl_y311 := (List.getElem?_eq_some_iff.1 hp_y311).1
   refine cK (.tuple #[.int .i64 ((posK Dom.id ds d.id : Nat)), .bool true]) Try.call47 (fun w hw => by have := placed_d (some ⟨g75, 0, none⟩) n n ds d.id w (hO303.atN (A := [_, _]) hw) hn (by omega) (guests_iff.1 q5).dr; rw [hasK_some hg311] at this; exact this) ?_
   refine cm 5 [] [0, 1] [(4, .int .i64 ((posK Dom.id ds d.id : Nat))), (5, .bool true)] ([]) (by kernel_rfl) rfl al0 ?_
   refine calm_nil' ?_
   refine ds_ (sq_ (at_block (sq_ (ao_ (qo0 1 [(0, .go (owns 6 0 4))] [0, 1, 4, 5] [(17, .agg #[.int .i64 d.id, .int .i64 d.weight, .int .i64 d.cap, .int .i64 d.pool])] ?_)))))
   rcases q330 : mayB d with _ | _
   ·
    refine cD (.bool false) Try.call45 (fun w hw => by have := may_d d w; rw [q330] at this; exact this) (qo0 2 [] [0, 1, 4, 5] [(16, .bool true)] (on_ (ds_ (t_ (sq_ (qa0 [] [] [(3, .int .i64 2)] (ds_ (bk ([]) (.int .i64 2) (qo0 1 [] [4, 7] [(8, .int .i64 2)] (on_ (ds_ (sq_ (qa0 [] [4, 7, 8] [(37, .bool true)] (ds_ (t_ (sq_ (qa0 [(2, .go (owns 3 0 2))] [4] [(5, .int .i64 2)] (ds_ (bk (owns 3 0 2) (.tuple #[.agg #[.slice none 0 0, .slice none 0 0], .int .i64 2]) (qo0 4 [(5, .go (owns 5 0 2))] [4] [(5, .int .i64 2)] (on_ (ds_ (rt (owns 5 0 2) (.tuple #[.agg #[.slice none 0 0, .slice none 0 0], .int .i64 2]) ?_)))))))))))))))))))))))
    exact fun w' hw => by rw [changeV_arg q5 q330]; exact ⟨none, 0, 0, [], none, 0, 0, [], rfl, SlO.nil, SlO.nil, hw.below, hw.sub (List.nil_sublist _)⟩
   ·
    refine cD (.bool true) Try.call45 (fun w hw => by have := may_d d w; rw [q330] at this; exact this) (qo0 2 [] [0, 1, 4, 5] [(16, .bool false)] (on_ (ds_ (f_ (sq_ (qa0 [] [0, 1, 4] [(20, .bool false)] (ds_ (f_ (at_skip (done_block (ds_ (sq_ ?_))))))))))))
    refine at_any (by kernel_rfl) ?_
    refine tk (m := 4) [0, 1, 2, 4] [] [1] [(25, .pointer (some ⟨γ195 0, 0, none⟩)), (27, .int .i64 ((posK Dom.id ds d.id : Nat)))] ([]) #[true, true, true, false, true, false, false, false] al0 ?_
    refine any_cut 1 #[true, true, true, true, true, true, true, false] ([(28, .agg #[.int .i64 d.id, .int .i64 d.weight, .int .i64 d.cap, .int .i64 d.pool]), (29, .pointer (some ⟨g75, 0 + (posK Dom.id ds d.id) * 4, none⟩))]) ([bx (γ195 0) (#[.slice (some ⟨g75, 0, none⟩) n n, .slice (some ⟨g155, 0, none⟩) m m]) 25, bx g155 ((sets c155 0 (vs.flatMap Enc.enc))) 43, bx g75 ((sets c75 0 (ds.flatMap Enc.enc))) 32, bx (γ3 1) (#[.slice none 0 0, .slice none 0 0]) 25, bx (γ3 0) (#[.slice p n cap, .slice q m capv]) 25, bx (γ1 2) (#[.slice none 0 0, .slice none 0 0]) 25, bx (γ1 1) (#[.int .i64 d.id, .int .i64 d.weight, .int .i64 d.cap, .int .i64 d.pool]) 32, bx (γ1 0) (#[.slice p n cap, .slice q m capv]) 25]) ?_ (fun hm => ?_)
    rotate_left
    ·
     refine any_fork [3, 5] (by kernel_rfl) (by simp) (each_cons _ rfl ?_ (each_cons _ rfl ?_ (each_nil)))
     ·
      refine qo0 1 [(3, .go (owns 0 0 1))] [1, 27] [(26, .slice (some ⟨g75, 0, none⟩) n n)] ?_
      refine od_ ?_
      refine a1 5 rfl ?_
      refine qo0 1 [(5, .go (owns 6 0 4))] [26, 27] [(28, .agg #[.int .i64 d.id, .int .i64 d.weight, .int .i64 d.cap, .int .i64 d.pool])] ?_
      refine od_ ?_
      refine tk (m := 1) [6] [(6, .at g75 0 (posK Dom.id ds d.id))] [28] [(29, .pointer (some ⟨g75, 0 + (posK Dom.id ds d.id) * 4, none⟩))] ([(some ⟨g75, 0, none⟩ : Option Addr) = some ⟨g75, 0, none⟩, ((posK Dom.id ds d.id : Nat)) = ((posK Dom.id ds d.id : Nat) : Int), posK Dom.id ds d.id < n]) #[true, true, true, true, true, true, true, false] (al2 rfl (al2 rfl (al1 (by omega)))) ?_
      exact any_weak hm [28, 29] (by kernel_rfl) rfl rfl rfl
     ·
      refine qo0 1 [(5, .go (owns 6 0 4))] [25, 27] [(28, .agg #[.int .i64 d.id, .int .i64 d.weight, .int .i64 d.cap, .int .i64 d.pool])] ?_
      refine od_ ?_
      refine a1 3 rfl ?_
      refine qo0 1 [(3, .go (owns 0 0 1))] [27, 28] [(26, .slice (some ⟨g75, 0, none⟩) n n)] ?_
      refine od_ ?_
      refine tk (m := 1) [6] [(6, .at g75 0 (posK Dom.id ds d.id))] [28] [(29, .pointer (some ⟨g75, 0 + (posK Dom.id ds d.id) * 4, none⟩))] ([(some ⟨g75, 0, none⟩ : Option Addr) = some ⟨g75, 0, none⟩, ((posK Dom.id ds d.id : Nat)) = ((posK Dom.id ds d.id : Nat) : Int), posK Dom.id ds d.id < n]) #[true, true, true, true, true, true, true, false] (al2 rfl (al2 rfl (al1 (by omega)))) ?_
      exact any_weak hm [28, 29] (by kernel_rfl) rfl rfl rfl
    refine a1 7 rfl ?_
    refine mo 1 [(7, .go (ownps 2 (0 + (posK Dom.id ds d.id) * 4) [undef, undef, undef, undef]))] [] (fun _ => []) (fun _ L => (L.set 2 (bx g75 ((((((sets c75 0 (ds.flatMap Enc.enc))).setIfInBounds (0 + (posK Dom.id ds d.id) * 4) (.int .i64 d.id)).setIfInBounds (0 + (posK Dom.id ds d.id) * 4 + 1) (.int .i64 d.weight)).setIfInBounds (0 + (posK Dom.id ds d.id) * 4 + 2) (.int .i64 d.cap)).setIfInBounds (0 + (posK Dom.id ds d.id) * 4 + 3) (.int .i64 d.pool)) 32))) (fun _ => [0 + (posK Dom.id ds d.id) * 4 < ((sets c75 0 (ds.flatMap Enc.enc))).size] ++ ([0 + (posK Dom.id ds d.id) * 4 + 1 < (((sets c75 0 (ds.flatMap Enc.enc))).setIfInBounds (0 + (posK Dom.id ds d.id) * 4) (.int .i64 d.id)).size] ++ ([0 + (posK Dom.id ds d.id) * 4 + 2 < ((((sets c75 0 (ds.flatMap Enc.enc))).setIfInBounds (0 + (posK Dom.id ds d.id) * 4) (.int .i64 d.id)).setIfInBounds (0 + (posK Dom.id ds d.id) * 4 + 1) (.int .i64 d.weight)).size] ++ ([0 + (posK Dom.id ds d.id) * 4 + 3 < (((((sets c75 0 (ds.flatMap Enc.enc))).setIfInBounds (0 + (posK Dom.id ds d.id) * 4) (.int .i64 d.id)).setIfInBounds (0 + (posK Dom.id ds d.id) * 4 + 1) (.int .i64 d.weight)).setIfInBounds (0 + (posK Dom.id ds d.id) * 4 + 2) (.int .i64 d.cap)).size])))) (fun _ => (alA (al1 (by exact hOw303.room hn hp_y311 (f := 0) (by decide))) (alA (al1 (by simp only [Array.size_setIfInBounds]; exact hOw303.room hn hp_y311 (f := 1) (by decide))) (alA (al1 (by simp only [Array.size_setIfInBounds]; exact hOw303.room hn hp_y311 (f := 2) (by decide))) (al1 (by simp only [Array.size_setIfInBounds]; exact hOw303.room hn hp_y311 (f := 3) (by decide))))))) (fun _ => ?_)
    refine od_ ?_
    refine any_nil (by kernel_rfl) ?_
    refine ds_ (sq_ (qa0 [] [] [(3, .int .i64 0)] (ds_ (bk ([]) (.int .i64 0) (qo0 1 [] [4, 7] [(8, .int .i64 0)] (on_ (ds_ (sq_ (qa0 [] [4, 7, 8] [(37, .bool false)] (ds_ (f_ (at_skip (ds_ (sq_ (ma0 [(0, .go (owns 0 0 2)), (1, .go (owns 3 0 2))] [4] (fun _ => [(5, .int .i64 0)]) (fun _ L => (L.set 3 (bx (γ3 1) (#[.slice (some ⟨g75, 0, none⟩) n n, .slice (some ⟨g155, 0, none⟩) m m]) 25))) (fun _ => ds_ (bk (owns 3 0 2) (.tuple #[.agg #[.slice (some ⟨g75, 0, none⟩) n n, .slice (some ⟨g155, 0, none⟩) m m], .int .i64 0]) (mo0 4 [(5, .go (owns 5 0 2))] [4] (fun _ => [(5, .int .i64 0)]) (fun _ L => (L.set 5 (bx (γ1 2) (#[.slice (some ⟨g75, 0, none⟩) n n, .slice (some ⟨g155, 0, none⟩) m m]) 25))) (fun _ => on_ (ds_ (rt (owns 5 0 2) (.tuple #[.agg #[.slice (some ⟨g75, 0, none⟩) n n, .slice (some ⟨g155, 0, none⟩) m m], .int .i64 0]) ?_)))))))))))))))))))))
    exact fun w' hw => by rw [changeV_ok q5 q330 hg311]; exact ⟨_, _, _, _, _, _, _, _, rfl, (SlO.ofOwn (hOw303.putAll (x' := d) hn hp_y311) (len_set hn)), hO306, hw.below, two_tails (Hs.pick [[bx (γ195 0) (#[.slice (some ⟨g75, 0, none⟩) n n, .slice (some ⟨g155, 0, none⟩) m m]) 25], [bx g155 ((sets c155 0 (vs.flatMap Enc.enc))) 43], [bx g75 ((((((sets c75 0 (ds.flatMap Enc.enc))).setIfInBounds (0 + (posK Dom.id ds d.id) * 4) (.int .i64 d.id)).setIfInBounds (0 + (posK Dom.id ds d.id) * 4 + 1) (.int .i64 d.weight)).setIfInBounds (0 + (posK Dom.id ds d.id) * 4 + 2) (.int .i64 d.cap)).setIfInBounds (0 + (posK Dom.id ds d.id) * 4 + 3) (.int .i64 d.pool)) 32], [bx (γ3 1) (#[.slice (some ⟨g75, 0, none⟩) n n, .slice (some ⟨g155, 0, none⟩) m m]) 25], [bx (γ3 0) (#[.slice p n cap, .slice q m capv]) 25], [bx (γ1 2) (#[.slice (some ⟨g75, 0, none⟩) n n, .slice (some ⟨g155, 0, none⟩) m m]) 25], [bx (γ1 1) (#[.int .i64 d.id, .int .i64 d.weight, .int .i64 d.cap, .int .i64 d.pool]) 32], [bx (γ1 0) (#[.slice p n cap, .slice q m capv]) 25]] [2, 1] [0, 3, 4, 5, 6, 7] (by kernel_rfl) hw)⟩

set_option maxRecDepth 100000 in
theorem remask_d (p : Option Addr) (n cap : Nat) (ds : List Dom) (q : Option Addr) (m capv : Nat) (vs : List Vcp) (k h s : Int) (w : World)
 (hds : Sv w p ds) (hn : n = ds.length) (hb : n ≤ 1000)
 (hvs : Sv w q vs) (hm : m = vs.length) (hmb : m ≤ 1000)
 : Calls Try.prog 18 #[.agg #[.slice p n cap, .slice q m capv], .int .i64 k, .agg #[.int .u32 h, .int .u32 s]] w fun e w' => ∃ q m capq Y q2 m2 capq2 X, e = .returned (.tuple #[.agg #[.slice q m capq, .slice q2 m2 capq2], .int .i64 (remaskV ds vs k h s).2.2]) ∧ SlO 32 Y q m capq (remaskV ds vs k h s).1 ∧ SlO 43 X q2 m2 capq2 (remaskV ds vs k h s).2.1 ∧ Below w.heap.size w w' ∧ Hs w (Y ++ X) w' := by
 refine enter (Hs.start w) Try.func18 rfl Try.ntmps18 rfl (sq_ (ma0 [] [] (fun γ1 => [(3, .pointer (some ⟨γ1 0, 0, none⟩)), (4, .pointer (some ⟨γ1 1, 0, none⟩)), (5, .pointer (some ⟨γ1 2, 0, none⟩)), (6, .pointer (some ⟨γ1 3, 0, none⟩))]) (fun γ1 L => bx (γ1 3) (#[.slice none 0 0, .slice none 0 0]) 25 :: bx (γ1 2) (#[.int .u32 h, .int .u32 s]) 41 :: bx (γ1 1) (#[.int .i64 k]) 3 :: bx (γ1 0) (#[.slice p n cap, .slice q m capv]) 25 :: L) (fun γ1 => ds_ (sq_ (ao_ (qo0 2 [(0, .go (owns 3 0 2))] [6] [(8, .agg #[.slice p n cap, .slice q m capv]), (9, .func (.func 58) #[] #[.pointer (some ⟨γ1 1, 0, none⟩), .pointer (some ⟨γ1 2, 0, none⟩)])] (ops_inline (g := 52) (args := #[.agg #[.slice p n cap, .slice q m capv], .func (.func 58) #[] #[.pointer (some ⟨γ1 1, 0, none⟩), .pointer (some ⟨γ1 2, 0, none⟩)]]) (by kernel_rfl) (by kernel_rfl) (by kernel_rfl) (fun args w => Try.call52 args w) Try.func52 rfl Try.ntmps52 rfl (sq_ (ma0 [] [1] (fun γ3 => [(2, .pointer (some ⟨γ3 0, 0, none⟩)), (4, .pointer (some ⟨γ3 1, 0, none⟩))]) (fun γ3 L => bx (γ3 1) (#[.slice none 0 0, .slice none 0 0]) 25 :: bx (γ3 0) (#[.slice p n cap, .slice q m capv]) 25 :: L) (fun γ3 => ds_ (sq_ (sq_ (ao_ (qo0 1 [(0, .go (owns 1 0 2))] [1, 2, 4] [(9, .agg #[.slice p n cap, .slice q m capv])] ?_))))))))))))))
 rcases q5 : guestsB ds vs with _ | _
 ·
  refine cD (.int .i64 190) Try.call10 (fun w hw => by have := gcheck_d p n cap ds q m capv vs w (hds.kept hw.below) hn (by omega) (hvs.kept hw.below) hm (by omega); rw [q5] at this; exact this) (qo0 1 [] [1, 2, 4] [(6, .int .i64 190)] (on_ (ds_ (sq_ (qa0 [] [1, 2, 4, 6] [(12, .bool true)] (ds_ (t_ (sq_ (qa0 [(2, .go (owns 0 0 2))] [4] [(5, .int .i64 190)] (ds_ (bk (owns 0 0 2) (.tuple #[.agg #[.slice none 0 0, .slice none 0 0], .int .i64 190]) (qo0 4 [(5, .go (owns 2 0 2))] [6] [(7, .int .i64 190)] (on_ (ds_ (rt (owns 2 0 2) (.tuple #[.agg #[.slice none 0 0, .slice none 0 0], .int .i64 190]) ?_)))))))))))))))
  exact fun w' hw => by rw [remaskV_bad q5]; exact ⟨none, 0, 0, [], none, 0, 0, [], rfl, SlO.nil, SlO.nil, hw.below, hw.sub (List.nil_sublist _)⟩
 ·
  refine cD (.int .i64 0) Try.call10 (fun w hw => by have := gcheck_d p n cap ds q m capv vs w (hds.kept hw.below) hn (by omega) (hvs.kept hw.below) hm (by omega); rw [q5] at this; exact this) (qo0 1 [] [1, 2, 4] [(6, .int .i64 0)] (on_ (ds_ (sq_ (qa0 [] [1, 2, 4, 6] [(12, .bool false)] (ds_ (f_ (at_skip (ds_ (sq_ ?_))))))))))
  refine at_any (by kernel_rfl) ?_
  refine tk (m := 9) [0, 4] [] [1, 2, 4] [(15, .pointer (some ⟨γ3 0, 0, none⟩)), (19, .pointer (some ⟨γ3 0, 1, none⟩))] ([]) #[true, false, false, false, true, false, false, false, false, false, false] al0 ?_
  refine any_cutX (V := (Array Value) × (Array Value) × (Nat) × (Nat) × (Nat → Nat)) (fun ⟨c155, c75, g155, g75, γ195⟩ => c155.size = m * 4 ∧ c75.size = n * 4) 0 #[true, true, true, true, true, true, true, true, true, true, true] (fun ⟨c155, c75, g155, g75, γ195⟩ => [(1, .func (.func 58) #[] #[.pointer (some ⟨γ1 1, 0, none⟩), .pointer (some ⟨γ1 2, 0, none⟩)]), (2, .pointer (some ⟨γ3 0, 0, none⟩)), (4, .pointer (some ⟨γ3 1, 0, none⟩)), (7, .pointer (some ⟨γ195 0, 0, none⟩))]) (fun ⟨c155, c75, g155, g75, γ195⟩ => [bx (γ195 0) (#[.slice (some ⟨g75, 0, none⟩) n n, .slice (some ⟨g155, 0, none⟩) m m]) 25, bx g155 c155 43, bx g75 c75 32, bx (γ3 1) (#[.slice none 0 0, .slice none 0 0]) 25, bx (γ3 0) (#[.slice p n cap, .slice q m capv]) 25, bx (γ1 3) (#[.slice none 0 0, .slice none 0 0]) 25, bx (γ1 2) (#[.int .u32 h, .int .u32 s]) 41, bx (γ1 1) (#[.int .i64 k]) 3, bx (γ1 0) (#[.slice p n cap, .slice q m capv]) 25]) ?_ (fun hmx18 => ?_)
  rotate_left
  ·
   refine any_cutX (V := (Array Value) × (Array Value) × (Nat) × (Nat) × (Nat → Nat)) (fun ⟨c155, c75, g155, g75, γ195⟩ => c155.size = m * 4 ∧ c75.size = n * 4) 1 #[true, true, true, true, true, true, true, true, true, true, false] (fun ⟨c155, c75, g155, g75, γ195⟩ => [(1, .func (.func 58) #[] #[.pointer (some ⟨γ1 1, 0, none⟩), .pointer (some ⟨γ1 2, 0, none⟩)]), (2, .pointer (some ⟨γ3 0, 0, none⟩)), (4, .pointer (some ⟨γ3 1, 0, none⟩)), (7, .pointer (some ⟨γ195 0, 0, none⟩)), (23, .agg #[.slice (some ⟨g75, 0, none⟩) n n, .slice (some ⟨g155, 0, none⟩) m m])]) (fun ⟨c155, c75, g155, g75, γ195⟩ => [bx (γ195 0) (#[.slice none 0 0, .slice none 0 0]) 25, bx g155 c155 43, bx g75 c75 32, bx (γ3 1) (#[.slice none 0 0, .slice none 0 0]) 25, bx (γ3 0) (#[.slice p n cap, .slice q m capv]) 25, bx (γ1 3) (#[.slice none 0 0, .slice none 0 0]) 25, bx (γ1 2) (#[.int .u32 h, .int .u32 s]) 41, bx (γ1 1) (#[.int .i64 k]) 3, bx (γ1 0) (#[.slice p n cap, .slice q m capv]) 25]) ?_ (fun hmx17 => ?_)
   ·
    rintro ⟨c155, c75, g155, g75, γ195⟩ ⟨hc155, hc75⟩
    refine a1 10 rfl ?_
    refine mo0 1 [(10, .go (owns 0 0 2))] [1, 2, 4, 7] (fun _ => []) (fun _ L => (L.set 0 (bx (γ195 0) (#[.slice (some ⟨g75, 0, none⟩) n n, .slice (some ⟨g155, 0, none⟩) m m]) 25))) (fun _ => ?_)
    refine od_ ?_
    exact wk (hmx18 (c155, c75, g155, g75, γ195) ⟨hc155, hc75⟩) [1, 2, 4, 7] [[_], [_], [_], [_], [_], [_], [_], [_], [_]] [0, 1, 2, 3, 4, 5, 6, 7, 8] rfl rfl
   refine any_cutX (V := (Array Value) × (Array Value) × (Nat) × (Nat)) (fun ⟨c155, c75, g155, g75⟩ => c155.size = m * 4 ∧ c75.size = n * 4) 2 #[true, true, true, true, true, true, true, true, true, false, false] (fun ⟨c155, c75, g155, g75⟩ => [(1, .func (.func 58) #[] #[.pointer (some ⟨γ1 1, 0, none⟩), .pointer (some ⟨γ1 2, 0, none⟩)]), (2, .pointer (some ⟨γ3 0, 0, none⟩)), (4, .pointer (some ⟨γ3 1, 0, none⟩)), (23, .agg #[.slice (some ⟨g75, 0, none⟩) n n, .slice (some ⟨g155, 0, none⟩) m m])]) (fun ⟨c155, c75, g155, g75⟩ => [bx g155 c155 43, bx g75 c75 32, bx (γ3 1) (#[.slice none 0 0, .slice none 0 0]) 25, bx (γ3 0) (#[.slice p n cap, .slice q m capv]) 25, bx (γ1 3) (#[.slice none 0 0, .slice none 0 0]) 25, bx (γ1 2) (#[.int .u32 h, .int .u32 s]) 41, bx (γ1 1) (#[.int .i64 k]) 3, bx (γ1 0) (#[.slice p n cap, .slice q m capv]) 25]) ?_ (fun hmx16 => ?_)
   ·
    rintro ⟨c155, c75, g155, g75⟩ ⟨hc155, hc75⟩
    refine a1 9 rfl ?_
    refine mo0 1 [] [1, 2, 4, 23] (fun γ195 => [(7, .pointer (some ⟨γ195 0, 0, none⟩))]) (fun γ195 L => bx (γ195 0) (#[.slice none 0 0, .slice none 0 0]) 25 :: L) (fun γ195 => ?_)
    refine od_ ?_
    exact wk (hmx17 (c155, c75, g155, g75, γ195) ⟨hc155, hc75⟩) [1, 2, 4, 7, 23] [[_], [_], [_], [_], [_], [_], [_], [_], [_]] [0, 1, 2, 3, 4, 5, 6, 7, 8] rfl rfl
   refine any_cutX (V := (Array Value) × (Nat) × (Nat → Nat)) (fun ⟨c155, g155, γ195⟩ => c155.size = m * 4) 3 #[true, true, true, false, true, true, true, true, false, true, false] (fun ⟨c155, g155, γ195⟩ => [(1, .func (.func 58) #[] #[.pointer (some ⟨γ1 1, 0, none⟩), .pointer (some ⟨γ1 2, 0, none⟩)]), (2, .pointer (some ⟨γ3 0, 0, none⟩)), (4, .pointer (some ⟨γ3 1, 0, none⟩)), (7, .pointer (some ⟨γ195 0, 0, none⟩)), (17, .int .i64 ((n : Nat))), (22, .slice (some ⟨g155, 0, none⟩) m m)]) (fun ⟨c155, g155, γ195⟩ => [bx (γ195 0) (#[.slice none 0 0, .slice none 0 0]) 25, bx g155 c155 43, bx (γ3 1) (#[.slice none 0 0, .slice none 0 0]) 25, bx (γ3 0) (#[.slice p n cap, .slice q m capv]) 25, bx (γ1 3) (#[.slice none 0 0, .slice none 0 0]) 25, bx (γ1 2) (#[.int .u32 h, .int .u32 s]) 41, bx (γ1 1) (#[.int .i64 k]) 3, bx (γ1 0) (#[.slice p n cap, .slice q m capv]) 25]) ?_ (fun hmx15 => ?_)
   ·
    rintro ⟨c155, g155, γ195⟩ hc155
    refine a1 3 rfl ?_
    refine ops_make (T := 32) (ks := 4) (by_ := 32) (n := n) rfl (by kernel_rfl) (by kernel_rfl) (by kernel_rfl) (by kernel_rfl) (by kernel_rfl) (by omega) (by have hmx : maxLen = 9223372036854775807 := rfl; omega) (fun g75 c75 hc75 => ?_)
    refine od_ ?_
    refine tk (m := 1) [8] [] [1, 2, 4, 7] [(23, .agg #[.slice (some ⟨g75, 0, none⟩) n n, .slice (some ⟨g155, 0, none⟩) m m])] ([]) #[true, true, true, true, true, true, true, true, true, true, false] al0 ?_
    exact wk (hmx17 (c155, c75, g155, g75, γ195) ⟨hc155, hc75⟩) [1, 2, 4, 7, 23] [[_], [_], [_], [_], [_], [_], [_], [_], [_]] [1, 2, 0, 3, 4, 5, 6, 7, 8] rfl rfl
   refine any_cutX (V := (Array Value) × (Nat) × (Nat → Nat)) (fun ⟨c75, g75, γ195⟩ => c75.size = n * 4) 3 #[true, true, true, true, true, true, true, false, false, true, false] (fun ⟨c75, g75, γ195⟩ => [(1, .func (.func 58) #[] #[.pointer (some ⟨γ1 1, 0, none⟩), .pointer (some ⟨γ1 2, 0, none⟩)]), (2, .pointer (some ⟨γ3 0, 0, none⟩)), (4, .pointer (some ⟨γ3 1, 0, none⟩)), (7, .pointer (some ⟨γ195 0, 0, none⟩)), (18, .slice (some ⟨g75, 0, none⟩) n n), (21, .int .i64 ((m : Nat)))]) (fun ⟨c75, g75, γ195⟩ => [bx (γ195 0) (#[.slice none 0 0, .slice none 0 0]) 25, bx g75 c75 32, bx (γ3 1) (#[.slice none 0 0, .slice none 0 0]) 25, bx (γ3 0) (#[.slice p n cap, .slice q m capv]) 25, bx (γ1 3) (#[.slice none 0 0, .slice none 0 0]) 25, bx (γ1 2) (#[.int .u32 h, .int .u32 s]) 41, bx (γ1 1) (#[.int .i64 k]) 3, bx (γ1 0) (#[.slice p n cap, .slice q m capv]) 25]) ?_ (fun hmx14 => ?_)
   ·
    rintro ⟨c75, g75, γ195⟩ hc75
    refine a1 7 rfl ?_
    refine ops_make (T := 43) (ks := 4) (by_ := 24) (n := m) rfl (by kernel_rfl) (by kernel_rfl) (by kernel_rfl) (by kernel_rfl) (by kernel_rfl) (by omega) (by have hmx : maxLen = 9223372036854775807 := rfl; omega) (fun g155 c155 hc155 => ?_)
    refine od_ ?_
    refine tk (m := 1) [8] [] [1, 2, 4, 7] [(23, .agg #[.slice (some ⟨g75, 0, none⟩) n n, .slice (some ⟨g155, 0, none⟩) m m])] ([]) #[true, true, true, true, true, true, true, true, true, true, false] al0 ?_
    exact wk (hmx17 (c155, c75, g155, g75, γ195) ⟨hc155, hc75⟩) [1, 2, 4, 7, 23] [[_], [_], [_], [_], [_], [_], [_], [_], [_]] [1, 0, 2, 3, 4, 5, 6, 7, 8] rfl rfl
   refine any_cutX (V := (Array Value) × (Nat)) (fun ⟨c155, g155⟩ => c155.size = m * 4) 4 #[true, true, true, false, true, true, true, true, false, false, false] (fun ⟨c155, g155⟩ => [(1, .func (.func 58) #[] #[.pointer (some ⟨γ1 1, 0, none⟩), .pointer (some ⟨γ1 2, 0, none⟩)]), (2, .pointer (some ⟨γ3 0, 0, none⟩)), (4, .pointer (some ⟨γ3 1, 0, none⟩)), (17, .int .i64 ((n : Nat))), (22, .slice (some ⟨g155, 0, none⟩) m m)]) (fun ⟨c155, g155⟩ => [bx g155 c155 43, bx (γ3 1) (#[.slice none 0 0, .slice none 0 0]) 25, bx (γ3 0) (#[.slice p n cap, .slice q m capv]) 25, bx (γ1 3) (#[.slice none 0 0, .slice none 0 0]) 25, bx (γ1 2) (#[.int .u32 h, .int .u32 s]) 41, bx (γ1 1) (#[.int .i64 k]) 3, bx (γ1 0) (#[.slice p n cap, .slice q m capv]) 25]) ?_ (fun hmx13 => ?_)
   ·
    rintro ⟨c155, g155⟩ hc155
    refine any_fork [3, 9] (by kernel_rfl) (by simp) (each_cons _ rfl ?_ (each_cons _ rfl ?_ (each_nil)))
    ·
     refine ops_make (T := 32) (ks := 4) (by_ := 32) (n := n) rfl (by kernel_rfl) (by kernel_rfl) (by kernel_rfl) (by kernel_rfl) (by kernel_rfl) (by omega) (by have hmx : maxLen = 9223372036854775807 := rfl; omega) (fun g75 c75 hc75 => ?_)
     refine od_ ?_
     refine tk (m := 2) [8] [] [1, 2, 4] [(23, .agg #[.slice (some ⟨g75, 0, none⟩) n n, .slice (some ⟨g155, 0, none⟩) m m])] ([]) #[true, true, true, true, true, true, true, true, true, false, false] al0 ?_
     exact wk (hmx16 (c155, c75, g155, g75) ⟨hc155, hc75⟩) [1, 2, 4, 23] [[_], [_], [_], [_], [_], [_], [_], [_]] [1, 0, 2, 3, 4, 5, 6, 7] rfl rfl
    ·
     refine mo0 1 [] [1, 2, 4, 17, 22] (fun γ195 => [(7, .pointer (some ⟨γ195 0, 0, none⟩))]) (fun γ195 L => bx (γ195 0) (#[.slice none 0 0, .slice none 0 0]) 25 :: L) (fun γ195 => ?_)
     refine od_ ?_
     exact wk (hmx15 (c155, g155, γ195) hc155) [1, 2, 4, 7, 17, 22] [[_], [_], [_], [_], [_], [_], [_], [_]] [0, 1, 2, 3, 4, 5, 6, 7] rfl rfl
   refine any_cutX (V := (Array Value) × (Nat)) (fun ⟨c75, g75⟩ => c75.size = n * 4) 4 #[true, true, true, true, true, true, true, false, false, false, false] (fun ⟨c75, g75⟩ => [(1, .func (.func 58) #[] #[.pointer (some ⟨γ1 1, 0, none⟩), .pointer (some ⟨γ1 2, 0, none⟩)]), (2, .pointer (some ⟨γ3 0, 0, none⟩)), (4, .pointer (some ⟨γ3 1, 0, none⟩)), (18, .slice (some ⟨g75, 0, none⟩) n n), (21, .int .i64 ((m : Nat)))]) (fun ⟨c75, g75⟩ => [bx g75 c75 32, bx (γ3 1) (#[.slice none 0 0, .slice none 0 0]) 25, bx (γ3 0) (#[.slice p n cap, .slice q m capv]) 25, bx (γ1 3) (#[.slice none 0 0, .slice none 0 0]) 25, bx (γ1 2) (#[.int .u32 h, .int .u32 s]) 41, bx (γ1 1) (#[.int .i64 k]) 3, bx (γ1 0) (#[.slice p n cap, .slice q m capv]) 25]) ?_ (fun hmx12 => ?_)
   ·
    rintro ⟨c75, g75⟩ hc75
    refine any_fork [7, 9] (by kernel_rfl) (by simp) (each_cons _ rfl ?_ (each_cons _ rfl ?_ (each_nil)))
    ·
     refine ops_make (T := 43) (ks := 4) (by_ := 24) (n := m) rfl (by kernel_rfl) (by kernel_rfl) (by kernel_rfl) (by kernel_rfl) (by kernel_rfl) (by omega) (by have hmx : maxLen = 9223372036854775807 := rfl; omega) (fun g155 c155 hc155 => ?_)
     refine od_ ?_
     refine tk (m := 2) [8] [] [1, 2, 4] [(23, .agg #[.slice (some ⟨g75, 0, none⟩) n n, .slice (some ⟨g155, 0, none⟩) m m])] ([]) #[true, true, true, true, true, true, true, true, true, false, false] al0 ?_
     exact wk (hmx16 (c155, c75, g155, g75) ⟨hc155, hc75⟩) [1, 2, 4, 23] [[_], [_], [_], [_], [_], [_], [_], [_]] [0, 1, 2, 3, 4, 5, 6, 7] rfl rfl
    ·
     refine mo0 1 [] [1, 2, 4, 18, 21] (fun γ195 => [(7, .pointer (some ⟨γ195 0, 0, none⟩))]) (fun γ195 L => bx (γ195 0) (#[.slice none 0 0, .slice none 0 0]) 25 :: L) (fun γ195 => ?_)
     refine od_ ?_
     exact wk (hmx14 (c75, g75, γ195) hc75) [1, 2, 4, 7, 18, 21] [[_], [_], [_], [_], [_], [_], [_], [_]] [0, 1, 2, 3, 4, 5, 6, 7] rfl rfl
   refine any_cutX (V := (Nat → Nat)) (fun γ195 => True) 4 #[true, true, true, false, true, true, true, false, false, true, false] (fun γ195 => [(1, .func (.func 58) #[] #[.pointer (some ⟨γ1 1, 0, none⟩), .pointer (some ⟨γ1 2, 0, none⟩)]), (2, .pointer (some ⟨γ3 0, 0, none⟩)), (4, .pointer (some ⟨γ3 1, 0, none⟩)), (7, .pointer (some ⟨γ195 0, 0, none⟩)), (17, .int .i64 ((n : Nat))), (21, .int .i64 ((m : Nat)))]) (fun γ195 => [bx (γ195 0) (#[.slice none 0 0, .slice none 0 0]) 25, bx (γ3 1) (#[.slice none 0 0, .slice none 0 0]) 25, bx (γ3 0) (#[.slice p n cap, .slice q m capv]) 25, bx (γ1 3) (#[.slice none 0 0, .slice none 0 0]) 25, bx (γ1 2) (#[.int .u32 h, .int .u32 s]) 41, bx (γ1 1) (#[.int .i64 k]) 3, bx (γ1 0) (#[.slice p n cap, .slice q m capv]) 25]) ?_ (fun hmx11 => ?_)
   ·
    rintro γ195 _
    refine any_fork [3, 7] (by kernel_rfl) (by simp) (each_cons _ rfl ?_ (each_cons _ rfl ?_ (each_nil)))
    ·
     refine ops_make (T := 32) (ks := 4) (by_ := 32) (n := n) rfl (by kernel_rfl) (by kernel_rfl) (by kernel_rfl) (by kernel_rfl) (by kernel_rfl) (by omega) (by have hmx : maxLen = 9223372036854775807 := rfl; omega) (fun g75 c75 hc75 => ?_)
     refine od_ ?_
     exact wk (hmx14 (c75, g75, γ195) hc75) [1, 2, 4, 7, 18, 21] [[_], [_], [_], [_], [_], [_], [_], [_]] [1, 0, 2, 3, 4, 5, 6, 7] rfl rfl
    ·
     refine ops_make (T := 43) (ks := 4) (by_ := 24) (n := m) rfl (by kernel_rfl) (by kernel_rfl) (by kernel_rfl) (by kernel_rfl) (by kernel_rfl) (by omega) (by have hmx : maxLen = 9223372036854775807 := rfl; omega) (fun g155 c155 hc155 => ?_)
     refine od_ ?_
     exact wk (hmx15 (c155, g155, γ195) hc155) [1, 2, 4, 7, 17, 22] [[_], [_], [_], [_], [_], [_], [_], [_]] [1, 0, 2, 3, 4, 5, 6, 7] rfl rfl
   refine any_cutX (V := (Array Value) × (Nat) × (Nat → Nat)) (fun ⟨c155, g155, γ195⟩ => c155.size = m * 4) 5 #[true, false, false, false, true, true, true, true, false, true, false] (fun ⟨c155, g155, γ195⟩ => [(1, .func (.func 58) #[] #[.pointer (some ⟨γ1 1, 0, none⟩), .pointer (some ⟨γ1 2, 0, none⟩)]), (2, .pointer (some ⟨γ3 0, 0, none⟩)), (4, .pointer (some ⟨γ3 1, 0, none⟩)), (7, .pointer (some ⟨γ195 0, 0, none⟩)), (15, .pointer (some ⟨γ3 0, 0, none⟩)), (22, .slice (some ⟨g155, 0, none⟩) m m)]) (fun ⟨c155, g155, γ195⟩ => [bx (γ195 0) (#[.slice none 0 0, .slice none 0 0]) 25, bx g155 c155 43, bx (γ3 1) (#[.slice none 0 0, .slice none 0 0]) 25, bx (γ3 0) (#[.slice p n cap, .slice q m capv]) 25, bx (γ1 3) (#[.slice none 0 0, .slice none 0 0]) 25, bx (γ1 2) (#[.int .u32 h, .int .u32 s]) 41, bx (γ1 1) (#[.int .i64 k]) 3, bx (γ1 0) (#[.slice p n cap, .slice q m capv]) 25]) ?_ (fun hmx10 => ?_)
   ·
    rintro ⟨c155, g155, γ195⟩ hc155
    refine a1 1 rfl ?_
    refine qo0 1 [(1, .go (owns 3 0 1))] [1, 2, 4, 7, 22] [(16, .slice p n cap)] ?_
    refine od_ ?_
    refine tk (m := 3) [2] [] [1, 2, 4, 7, 22] [(17, .int .i64 ((n : Nat)))] ([]) #[true, true, true, false, true, true, true, true, false, true, false] al0 ?_
    exact wk (hmx15 (c155, g155, γ195) hc155) [1, 2, 4, 7, 17, 22] [[_], [_], [_], [_], [_], [_], [_], [_]] [0, 1, 2, 3, 4, 5, 6, 7] rfl rfl
   refine any_cutX (V := (Array Value) × (Nat) × (Nat → Nat)) (fun ⟨c75, g75, γ195⟩ => c75.size = n * 4) 5 #[true, true, true, true, true, false, false, false, false, true, false] (fun ⟨c75, g75, γ195⟩ => [(1, .func (.func 58) #[] #[.pointer (some ⟨γ1 1, 0, none⟩), .pointer (some ⟨γ1 2, 0, none⟩)]), (2, .pointer (some ⟨γ3 0, 0, none⟩)), (4, .pointer (some ⟨γ3 1, 0, none⟩)), (7, .pointer (some ⟨γ195 0, 0, none⟩)), (18, .slice (some ⟨g75, 0, none⟩) n n), (19, .pointer (some ⟨γ3 0, 1, none⟩))]) (fun ⟨c75, g75, γ195⟩ => [bx (γ195 0) (#[.slice none 0 0, .slice none 0 0]) 25, bx g75 c75 32, bx (γ3 1) (#[.slice none 0 0, .slice none 0 0]) 25, bx (γ3 0) (#[.slice p n cap, .slice q m capv]) 25, bx (γ1 3) (#[.slice none 0 0, .slice none 0 0]) 25, bx (γ1 2) (#[.int .u32 h, .int .u32 s]) 41, bx (γ1 1) (#[.int .i64 k]) 3, bx (γ1 0) (#[.slice p n cap, .slice q m capv]) 25]) ?_ (fun hmx9 => ?_)
   ·
    rintro ⟨c75, g75, γ195⟩ hc75
    refine a1 5 rfl ?_
    refine qo0 1 [(5, .go (owns 3 1 1))] [1, 2, 4, 7, 18] [(20, .slice q m capv)] ?_
    refine od_ ?_
    refine tk (m := 3) [6] [] [1, 2, 4, 7, 18] [(21, .int .i64 ((m : Nat)))] ([]) #[true, true, true, true, true, true, true, false, false, true, false] al0 ?_
    exact wk (hmx14 (c75, g75, γ195) hc75) [1, 2, 4, 7, 18, 21] [[_], [_], [_], [_], [_], [_], [_], [_]] [0, 1, 2, 3, 4, 5, 6, 7] rfl rfl
   refine any_cutX (V := Unit) (fun _ => True) 5 #[true, true, true, false, true, true, true, false, false, false, false] (fun _ => [(1, .func (.func 58) #[] #[.pointer (some ⟨γ1 1, 0, none⟩), .pointer (some ⟨γ1 2, 0, none⟩)]), (2, .pointer (some ⟨γ3 0, 0, none⟩)), (4, .pointer (some ⟨γ3 1, 0, none⟩)), (17, .int .i64 ((n : Nat))), (21, .int .i64 ((m : Nat)))]) (fun _ => [bx (γ3 1) (#[.slice none 0 0, .slice none 0 0]) 25, bx (γ3 0) (#[.slice p n cap, .slice q m capv]) 25, bx (γ1 3) (#[.slice none 0 0, .slice none 0 0]) 25, bx (γ1 2) (#[.int .u32 h, .int .u32 s]) 41, bx (γ1 1) (#[.int .i64 k]) 3, bx (γ1 0) (#[.slice p n cap, .slice q m capv]) 25]) ?_ (fun hmx8 => ?_)
   ·
    rintro _ _
    refine any_fork [3, 7, 9] (by kernel_rfl) (by simp) (each_cons _ rfl ?_ (each_cons _ rfl ?_ (each_cons _ rfl ?_ (each_nil))))
    ·
     refine ops_make (T := 32) (ks := 4) (by_ := 32) (n := n) rfl (by kernel_rfl) (by kernel_rfl) (by kernel_rfl) (by kernel_rfl) (by kernel_rfl) (by omega) (by have hmx : maxLen = 9223372036854775807 := rfl; omega) (fun g75 c75 hc75 => ?_)
     refine od_ ?_
     exact wk (hmx12 (c75, g75) hc75) [1, 2, 4, 18, 21] [[_], [_], [_], [_], [_], [_], [_]] [0, 1, 2, 3, 4, 5, 6] rfl rfl
    ·
     refine ops_make (T := 43) (ks := 4) (by_ := 24) (n := m) rfl (by kernel_rfl) (by kernel_rfl) (by kernel_rfl) (by kernel_rfl) (by kernel_rfl) (by omega) (by have hmx : maxLen = 9223372036854775807 := rfl; omega) (fun g155 c155 hc155 => ?_)
     refine od_ ?_
     exact wk (hmx13 (c155, g155) hc155) [1, 2, 4, 17, 22] [[_], [_], [_], [_], [_], [_], [_]] [0, 1, 2, 3, 4, 5, 6] rfl rfl
    ·
     refine mo0 1 [] [1, 2, 4, 17, 21] (fun γ195 => [(7, .pointer (some ⟨γ195 0, 0, none⟩))]) (fun γ195 L => bx (γ195 0) (#[.slice none 0 0, .slice none 0 0]) 25 :: L) (fun γ195 => ?_)
     refine od_ ?_
     exact wk (hmx11 γ195 trivial) [1, 2, 4, 7, 17, 21] [[_], [_], [_], [_], [_], [_], [_]] [0, 1, 2, 3, 4, 5, 6] rfl rfl
   refine any_cutX (V := (Array Value) × (Nat)) (fun ⟨c155, g155⟩ => c155.size = m * 4) 6 #[true, false, false, false, true, true, true, true, false, false, false] (fun ⟨c155, g155⟩ => [(1, .func (.func 58) #[] #[.pointer (some ⟨γ1 1, 0, none⟩), .pointer (some ⟨γ1 2, 0, none⟩)]), (2, .pointer (some ⟨γ3 0, 0, none⟩)), (4, .pointer (some ⟨γ3 1, 0, none⟩)), (15, .pointer (some ⟨γ3 0, 0, none⟩)), (22, .slice (some ⟨g155, 0, none⟩) m m)]) (fun ⟨c155, g155⟩ => [bx g155 c155 43, bx (γ3 1) (#[.slice none 0 0, .slice none 0 0]) 25, bx (γ3 0) (#[.slice p n cap, .slice q m capv]) 25, bx (γ1 3) (#[.slice none 0 0, .slice none 0 0]) 25, bx (γ1 2) (#[.int .u32 h, .int .u32 s]) 41, bx (γ1 1) (#[.int .i64 k]) 3, bx (γ1 0) (#[.slice p n cap, .slice q m capv]) 25]) ?_ (fun hmx7 => ?_)
   ·
    rintro ⟨c155, g155⟩ hc155
    refine any_fork [1, 9] (by kernel_rfl) (by simp) (each_cons _ rfl ?_ (each_cons _ rfl ?_ (each_nil)))
    ·
     refine qo0 1 [(1, .go (owns 2 0 1))] [1, 2, 4, 22] [(16, .slice p n cap)] ?_
     refine od_ ?_
     refine tk (m := 4) [2] [] [1, 2, 4, 22] [(17, .int .i64 ((n : Nat)))] ([]) #[true, true, true, false, true, true, true, true, false, false, false] al0 ?_
     exact wk (hmx13 (c155, g155) hc155) [1, 2, 4, 17, 22] [[_], [_], [_], [_], [_], [_], [_]] [0, 1, 2, 3, 4, 5, 6] rfl rfl
    ·
     refine mo0 1 [] [1, 2, 4, 15, 22] (fun γ195 => [(7, .pointer (some ⟨γ195 0, 0, none⟩))]) (fun γ195 L => bx (γ195 0) (#[.slice none 0 0, .slice none 0 0]) 25 :: L) (fun γ195 => ?_)
     refine od_ ?_
     exact wk (hmx10 (c155, g155, γ195) hc155) [1, 2, 4, 7, 15, 22] [[_], [_], [_], [_], [_], [_], [_], [_]] [0, 1, 2, 3, 4, 5, 6, 7] rfl rfl
   refine any_cutX (V := (Array Value) × (Nat)) (fun ⟨c75, g75⟩ => c75.size = n * 4) 6 #[true, true, true, true, true, false, false, false, false, false, false] (fun ⟨c75, g75⟩ => [(1, .func (.func 58) #[] #[.pointer (some ⟨γ1 1, 0, none⟩), .pointer (some ⟨γ1 2, 0, none⟩)]), (2, .pointer (some ⟨γ3 0, 0, none⟩)), (4, .pointer (some ⟨γ3 1, 0, none⟩)), (18, .slice (some ⟨g75, 0, none⟩) n n), (19, .pointer (some ⟨γ3 0, 1, none⟩))]) (fun ⟨c75, g75⟩ => [bx g75 c75 32, bx (γ3 1) (#[.slice none 0 0, .slice none 0 0]) 25, bx (γ3 0) (#[.slice p n cap, .slice q m capv]) 25, bx (γ1 3) (#[.slice none 0 0, .slice none 0 0]) 25, bx (γ1 2) (#[.int .u32 h, .int .u32 s]) 41, bx (γ1 1) (#[.int .i64 k]) 3, bx (γ1 0) (#[.slice p n cap, .slice q m capv]) 25]) ?_ (fun hmx6 => ?_)
   ·
    rintro ⟨c75, g75⟩ hc75
    refine any_fork [5, 9] (by kernel_rfl) (by simp) (each_cons _ rfl ?_ (each_cons _ rfl ?_ (each_nil)))
    ·
     refine qo0 1 [(5, .go (owns 2 1 1))] [1, 2, 4, 18] [(20, .slice q m capv)] ?_
     refine od_ ?_
     refine tk (m := 4) [6] [] [1, 2, 4, 18] [(21, .int .i64 ((m : Nat)))] ([]) #[true, true, true, true, true, true, true, false, false, false, false] al0 ?_
     exact wk (hmx12 (c75, g75) hc75) [1, 2, 4, 18, 21] [[_], [_], [_], [_], [_], [_], [_]] [0, 1, 2, 3, 4, 5, 6] rfl rfl
    ·
     refine mo0 1 [] [1, 2, 4, 18, 19] (fun γ195 => [(7, .pointer (some ⟨γ195 0, 0, none⟩))]) (fun γ195 L => bx (γ195 0) (#[.slice none 0 0, .slice none 0 0]) 25 :: L) (fun γ195 => ?_)
     refine od_ ?_
     exact wk (hmx9 (c75, g75, γ195) hc75) [1, 2, 4, 7, 18, 19] [[_], [_], [_], [_], [_], [_], [_], [_]] [0, 1, 2, 3, 4, 5, 6, 7] rfl rfl
   refine any_cutX (V := (Nat → Nat)) (fun γ195 => True) 6 #[true, false, false, false, true, true, true, false, false, true, false] (fun γ195 => [(1, .func (.func 58) #[] #[.pointer (some ⟨γ1 1, 0, none⟩), .pointer (some ⟨γ1 2, 0, none⟩)]), (2, .pointer (some ⟨γ3 0, 0, none⟩)), (4, .pointer (some ⟨γ3 1, 0, none⟩)), (7, .pointer (some ⟨γ195 0, 0, none⟩)), (15, .pointer (some ⟨γ3 0, 0, none⟩)), (21, .int .i64 ((m : Nat)))]) (fun γ195 => [bx (γ195 0) (#[.slice none 0 0, .slice none 0 0]) 25, bx (γ3 1) (#[.slice none 0 0, .slice none 0 0]) 25, bx (γ3 0) (#[.slice p n cap, .slice q m capv]) 25, bx (γ1 3) (#[.slice none 0 0, .slice none 0 0]) 25, bx (γ1 2) (#[.int .u32 h, .int .u32 s]) 41, bx (γ1 1) (#[.int .i64 k]) 3, bx (γ1 0) (#[.slice p n cap, .slice q m capv]) 25]) ?_ (fun hmx5 => ?_)
   ·
    rintro γ195 _
    refine any_fork [1, 7] (by kernel_rfl) (by simp) (each_cons _ rfl ?_ (each_cons _ rfl ?_ (each_nil)))
    ·
     refine qo0 1 [(1, .go (owns 2 0 1))] [1, 2, 4, 7, 21] [(16, .slice p n cap)] ?_
     refine od_ ?_
     refine tk (m := 4) [2] [] [1, 2, 4, 7, 21] [(17, .int .i64 ((n : Nat)))] ([]) #[true, true, true, false, true, true, true, false, false, true, false] al0 ?_
     exact wk (hmx11 γ195 trivial) [1, 2, 4, 7, 17, 21] [[_], [_], [_], [_], [_], [_], [_]] [0, 1, 2, 3, 4, 5, 6] rfl rfl
    ·
     refine ops_make (T := 43) (ks := 4) (by_ := 24) (n := m) rfl (by kernel_rfl) (by kernel_rfl) (by kernel_rfl) (by kernel_rfl) (by kernel_rfl) (by omega) (by have hmx : maxLen = 9223372036854775807 := rfl; omega) (fun g155 c155 hc155 => ?_)
     refine od_ ?_
     exact wk (hmx10 (c155, g155, γ195) hc155) [1, 2, 4, 7, 15, 22] [[_], [_], [_], [_], [_], [_], [_], [_]] [1, 0, 2, 3, 4, 5, 6, 7] rfl rfl
   refine any_cutX (V := (Nat → Nat)) (fun γ195 => True) 6 #[true, true, true, false, true, false, false, false, false, true, false] (fun γ195 => [(1, .func (.func 58) #[] #[.pointer (some ⟨γ1 1, 0, none⟩), .pointer (some ⟨γ1 2, 0, none⟩)]), (2, .pointer (some ⟨γ3 0, 0, none⟩)), (4, .pointer (some ⟨γ3 1, 0, none⟩)), (7, .pointer (some ⟨γ195 0, 0, none⟩)), (17, .int .i64 ((n : Nat))), (19, .pointer (some ⟨γ3 0, 1, none⟩))]) (fun γ195 => [bx (γ195 0) (#[.slice none 0 0, .slice none 0 0]) 25, bx (γ3 1) (#[.slice none 0 0, .slice none 0 0]) 25, bx (γ3 0) (#[.slice p n cap, .slice q m capv]) 25, bx (γ1 3) (#[.slice none 0 0, .slice none 0 0]) 25, bx (γ1 2) (#[.int .u32 h, .int .u32 s]) 41, bx (γ1 1) (#[.int .i64 k]) 3, bx (γ1 0) (#[.slice p n cap, .slice q m capv]) 25]) ?_ (fun hmx4 => ?_)
   ·
    rintro γ195 _
    refine any_fork [3, 5] (by kernel_rfl) (by simp) (each_cons _ rfl ?_ (each_cons _ rfl ?_ (each_nil)))
    ·
     refine ops_make (T := 32) (ks := 4) (by_ := 32) (n := n) rfl (by kernel_rfl) (by kernel_rfl) (by kernel_rfl) (by kernel_rfl) (by kernel_rfl) (by omega) (by have hmx : maxLen = 9223372036854775807 := rfl; omega) (fun g75 c75 hc75 => ?_)
     refine od_ ?_
     exact wk (hmx9 (c75, g75, γ195) hc75) [1, 2, 4, 7, 18, 19] [[_], [_], [_], [_], [_], [_], [_], [_]] [1, 0, 2, 3, 4, 5, 6, 7] rfl rfl
    ·
     refine qo0 1 [(5, .go (owns 2 1 1))] [1, 2, 4, 7, 17] [(20, .slice q m capv)] ?_
     refine od_ ?_
     refine tk (m := 4) [6] [] [1, 2, 4, 7, 17] [(21, .int .i64 ((m : Nat)))] ([]) #[true, true, true, false, true, true, true, false, false, true, false] al0 ?_
     exact wk (hmx11 γ195 trivial) [1, 2, 4, 7, 17, 21] [[_], [_], [_], [_], [_], [_], [_]] [0, 1, 2, 3, 4, 5, 6] rfl rfl
   refine any_cutX (V := Unit) (fun _ => True) 7 #[true, false, false, false, true, true, true, false, false, false, false] (fun _ => [(1, .func (.func 58) #[] #[.pointer (some ⟨γ1 1, 0, none⟩), .pointer (some ⟨γ1 2, 0, none⟩)]), (2, .pointer (some ⟨γ3 0, 0, none⟩)), (4, .pointer (some ⟨γ3 1, 0, none⟩)), (15, .pointer (some ⟨γ3 0, 0, none⟩)), (21, .int .i64 ((m : Nat)))]) (fun _ => [bx (γ3 1) (#[.slice none 0 0, .slice none 0 0]) 25, bx (γ3 0) (#[.slice p n cap, .slice q m capv]) 25, bx (γ1 3) (#[.slice none 0 0, .slice none 0 0]) 25, bx (γ1 2) (#[.int .u32 h, .int .u32 s]) 41, bx (γ1 1) (#[.int .i64 k]) 3, bx (γ1 0) (#[.slice p n cap, .slice q m capv]) 25]) ?_ (fun hmx3 => ?_)
   ·
    rintro _ _
    refine any_fork [1, 7, 9] (by kernel_rfl) (by simp) (each_cons _ rfl ?_ (each_cons _ rfl ?_ (each_cons _ rfl ?_ (each_nil))))
    ·
     refine qo0 1 [(1, .go (owns 1 0 1))] [1, 2, 4, 21] [(16, .slice p n cap)] ?_
     refine od_ ?_
     refine tk (m := 5) [2] [] [1, 2, 4, 21] [(17, .int .i64 ((n : Nat)))] ([]) #[true, true, true, false, true, true, true, false, false, false, false] al0 ?_
     exact wk (hmx8 () trivial) [1, 2, 4, 17, 21] [[_], [_], [_], [_], [_], [_]] [0, 1, 2, 3, 4, 5] rfl rfl
    ·
     refine ops_make (T := 43) (ks := 4) (by_ := 24) (n := m) rfl (by kernel_rfl) (by kernel_rfl) (by kernel_rfl) (by kernel_rfl) (by kernel_rfl) (by omega) (by have hmx : maxLen = 9223372036854775807 := rfl; omega) (fun g155 c155 hc155 => ?_)
     refine od_ ?_
     exact wk (hmx7 (c155, g155) hc155) [1, 2, 4, 15, 22] [[_], [_], [_], [_], [_], [_], [_]] [0, 1, 2, 3, 4, 5, 6] rfl rfl
    ·
     refine mo0 1 [] [1, 2, 4, 15, 21] (fun γ195 => [(7, .pointer (some ⟨γ195 0, 0, none⟩))]) (fun γ195 L => bx (γ195 0) (#[.slice none 0 0, .slice none 0 0]) 25 :: L) (fun γ195 => ?_)
     refine od_ ?_
     exact wk (hmx5 γ195 trivial) [1, 2, 4, 7, 15, 21] [[_], [_], [_], [_], [_], [_], [_]] [0, 1, 2, 3, 4, 5, 6] rfl rfl
   refine any_cutX (V := Unit) (fun _ => True) 7 #[true, true, true, false, true, false, false, false, false, false, false] (fun _ => [(1, .func (.func 58) #[] #[.pointer (some ⟨γ1 1, 0, none⟩), .pointer (some ⟨γ1 2, 0, none⟩)]), (2, .pointer (some ⟨γ3 0, 0, none⟩)), (4, .pointer (some ⟨γ3 1, 0, none⟩)), (17, .int .i64 ((n : Nat))), (19, .pointer (some ⟨γ3 0, 1, none⟩))]) (fun _ => [bx (γ3 1) (#[.slice none 0 0, .slice none 0 0]) 25, bx (γ3 0) (#[.slice p n cap, .slice q m capv]) 25, bx (γ1 3) (#[.slice none 0 0, .slice none 0 0]) 25, bx (γ1 2) (#[.int .u32 h, .int .u32 s]) 41, bx (γ1 1) (#[.int .i64 k]) 3, bx (γ1 0) (#[.slice p n cap, .slice q m capv]) 25]) ?_ (fun hmx2 => ?_)
   ·
    rintro _ _
    refine any_fork [3, 5, 9] (by kernel_rfl) (by simp) (each_cons _ rfl ?_ (each_cons _ rfl ?_ (each_cons _ rfl ?_ (each_nil))))
    ·
     refine ops_make (T := 32) (ks := 4) (by_ := 32) (n := n) rfl (by kernel_rfl) (by kernel_rfl) (by kernel_rfl) (by kernel_rfl) (by kernel_rfl) (by omega) (by have hmx : maxLen = 9223372036854775807 := rfl; omega) (fun g75 c75 hc75 => ?_)
     refine od_ ?_
     exact wk (hmx6 (c75, g75) hc75) [1, 2, 4, 18, 19] [[_], [_], [_], [_], [_], [_], [_]] [0, 1, 2, 3, 4, 5, 6] rfl rfl
    ·
     refine qo0 1 [(5, .go (owns 1 1 1))] [1, 2, 4, 17] [(20, .slice q m capv)] ?_
     refine od_ ?_
     refine tk (m := 5) [6] [] [1, 2, 4, 17] [(21, .int .i64 ((m : Nat)))] ([]) #[true, true, true, false, true, true, true, false, false, false, false] al0 ?_
     exact wk (hmx8 () trivial) [1, 2, 4, 17, 21] [[_], [_], [_], [_], [_], [_]] [0, 1, 2, 3, 4, 5] rfl rfl
    ·
     refine mo0 1 [] [1, 2, 4, 17, 19] (fun γ195 => [(7, .pointer (some ⟨γ195 0, 0, none⟩))]) (fun γ195 L => bx (γ195 0) (#[.slice none 0 0, .slice none 0 0]) 25 :: L) (fun γ195 => ?_)
     refine od_ ?_
     exact wk (hmx4 γ195 trivial) [1, 2, 4, 7, 17, 19] [[_], [_], [_], [_], [_], [_], [_]] [0, 1, 2, 3, 4, 5, 6] rfl rfl
   refine any_cutX (V := (Nat → Nat)) (fun γ195 => True) 8 #[true, false, false, false, true, false, false, false, false, true, false] (fun γ195 => [(1, .func (.func 58) #[] #[.pointer (some ⟨γ1 1, 0, none⟩), .pointer (some ⟨γ1 2, 0, none⟩)]), (2, .pointer (some ⟨γ3 0, 0, none⟩)), (4, .pointer (some ⟨γ3 1, 0, none⟩)), (7, .pointer (some ⟨γ195 0, 0, none⟩)), (15, .pointer (some ⟨γ3 0, 0, none⟩)), (19, .pointer (some ⟨γ3 0, 1, none⟩))]) (fun γ195 => [bx (γ195 0) (#[.slice none 0 0, .slice none 0 0]) 25, bx (γ3 1) (#[.slice none 0 0, .slice none 0 0]) 25, bx (γ3 0) (#[.slice p n cap, .slice q m capv]) 25, bx (γ1 3) (#[.slice none 0 0, .slice none 0 0]) 25, bx (γ1 2) (#[.int .u32 h, .int .u32 s]) 41, bx (γ1 1) (#[.int .i64 k]) 3, bx (γ1 0) (#[.slice p n cap, .slice q m capv]) 25]) ?_ (fun hmx1 => ?_)
   ·
    rintro γ195 _
    refine any_fork [1, 5] (by kernel_rfl) (by simp) (each_cons _ rfl ?_ (each_cons _ rfl ?_ (each_nil)))
    ·
     refine qo0 1 [(1, .go (owns 2 0 1))] [1, 2, 4, 7, 19] [(16, .slice p n cap)] ?_
     refine od_ ?_
     refine tk (m := 6) [2] [] [1, 2, 4, 7, 19] [(17, .int .i64 ((n : Nat)))] ([]) #[true, true, true, false, true, false, false, false, false, true, false] al0 ?_
     exact wk (hmx4 γ195 trivial) [1, 2, 4, 7, 17, 19] [[_], [_], [_], [_], [_], [_], [_]] [0, 1, 2, 3, 4, 5, 6] rfl rfl
    ·
     refine qo0 1 [(5, .go (owns 2 1 1))] [1, 2, 4, 7, 15] [(20, .slice q m capv)] ?_
     refine od_ ?_
     refine tk (m := 6) [6] [] [1, 2, 4, 7, 15] [(21, .int .i64 ((m : Nat)))] ([]) #[true, false, false, false, true, true, true, false, false, true, false] al0 ?_
     exact wk (hmx5 γ195 trivial) [1, 2, 4, 7, 15, 21] [[_], [_], [_], [_], [_], [_], [_]] [0, 1, 2, 3, 4, 5, 6] rfl rfl
   refine any_fork [1, 5, 9] (by kernel_rfl) (by simp) (each_cons _ rfl ?_ (each_cons _ rfl ?_ (each_cons _ rfl ?_ (each_nil))))
   ·
    refine qo0 1 [(1, .go (owns 1 0 1))] [1, 2, 4, 19] [(16, .slice p n cap)] ?_
    refine od_ ?_
    refine tk (m := 7) [2] [] [1, 2, 4, 19] [(17, .int .i64 ((n : Nat)))] ([]) #[true, true, true, false, true, false, false, false, false, false, false] al0 ?_
    exact wk (hmx2 () trivial) [1, 2, 4, 17, 19] [[_], [_], [_], [_], [_], [_]] [0, 1, 2, 3, 4, 5] rfl rfl
   ·
    refine qo0 1 [(5, .go (owns 1 1 1))] [1, 2, 4, 15] [(20, .slice q m capv)] ?_
    refine od_ ?_
    refine tk (m := 7) [6] [] [1, 2, 4, 15] [(21, .int .i64 ((m : Nat)))] ([]) #[true, false, false, false, true, true, true, false, false, false, false] al0 ?_
    exact wk (hmx3 () trivial) [1, 2, 4, 15, 21] [[_], [_], [_], [_], [_], [_]] [0, 1, 2, 3, 4, 5] rfl rfl
   ·
    refine mo0 1 [] [1, 2, 4, 15, 19] (fun γ195 => [(7, .pointer (some ⟨γ195 0, 0, none⟩))]) (fun γ195 L => bx (γ195 0) (#[.slice none 0 0, .slice none 0 0]) 25 :: L) (fun γ195 => ?_)
    refine od_ ?_
    exact wk (hmx1 γ195 trivial) [1, 2, 4, 7, 15, 19] [[_], [_], [_], [_], [_], [_], [_]] [0, 1, 2, 3, 4, 5, 6] rfl rfl
  rintro ⟨c155, c75, g155, g75, γ195⟩ ⟨hc155, hc75⟩
  refine any_nil (by kernel_rfl) ?_
  refine ds_ (sq_ (ao_ (qo0 4 [(1, .go (owns 0 0 1)), (3, .go (owns 4 0 1))] [1, 2, 4, 7] [(25, .slice (some ⟨g75, 0, none⟩) n n), (27, .slice p n cap)] (ops_copy 2 rfl (by kernel_rfl) (by kernel_rfl) (g := g75) (of := 0) (dn := n) (dc := n) (m := n) (cnt := n) (c := c75) (yv := (.slice p n cap)) (ds.flatMap Enc.enc) (by kernel_rfl) (by kernel_rfl) (T := 32) (ks := 4) (by_ := 32) (by kernel_rfl) (T' := 32) (by kernel_rfl) len_slice (by omega) (fun w hw => by have := first_sv (P := Try.prog) (w := w) (p := p) (m := n) (cap := cap) (cnt := n) (hds.kept hw.below) (by omega); rw [List.take_of_length_le (by omega)] at this; exact this) (by first | (rw [flat_len, Nat.zero_add, hc75, ← hn]; exact Nat.le_refl _) | (rw [flat_len, Nat.zero_add, hc75, ← hn])) (flat_one ds) ?_))))
  have hOw303 := OwnS.filled (l := ds) (n := n) hc75 hn (by have hmx : maxLen = 9223372036854775807 := rfl; omega)
  have hO303 := SlO.ofOwn (T := 32) (g := g75) hOw303 hn
  refine on_ (ds_ (sq_ (ao_ (qo0 4 [(1, .go (owns 0 1 1)), (3, .go (owns 4 1 1))] [1, 4, 7] [(30, .slice (some ⟨g155, 0, none⟩) m m), (32, .slice q m capv)] (ops_copy 1 rfl (by kernel_rfl) (by kernel_rfl) (g := g155) (of := 0) (dn := m) (dc := m) (m := m) (cnt := m) (c := c155) (yv := (.slice q m capv)) (vs.flatMap Enc.enc) (by kernel_rfl) (by kernel_rfl) (T := 43) (ks := 4) (by_ := 24) (by kernel_rfl) (T' := 43) (by kernel_rfl) len_slice (by omega) (fun w hw => by have := first_sv (P := Try.prog) (w := w) (p := q) (m := m) (cap := capv) (cnt := m) (hvs.kept hw.below) (by omega); rw [List.take_of_length_le (by omega)] at this; exact this) (by first | (rw [flat_len, Nat.zero_add, hc155, ← hm]; exact Nat.le_refl _) | (rw [flat_len, Nat.zero_add, hc155, ← hm])) (flat_one vs) ?_)))))
  have hOw306 := OwnS.filled (l := vs) (n := m) hc155 hm (by have hmx : maxLen = 9223372036854775807 := rfl; omega)
  have hO306 := SlO.ofOwn (T := 43) (g := g155) hOw306 hm
  refine on_ (ds_ (sq_ (sq_ (ao_ (qo0 1 [] [4, 7] [(34, .func (.func 58) #[] #[.pointer (some ⟨γ1 1, 0, none⟩), .pointer (some ⟨γ1 2, 0, none⟩)])] (ops_inline (g := 58) (args := #[.pointer (some ⟨γ195 0, 0, none⟩), .pointer (some ⟨γ1 1, 0, none⟩), .pointer (some ⟨γ1 2, 0, none⟩)]) (by kernel_rfl) (by kernel_rfl) (by kernel_rfl) (fun args w => Try.call58 args w) Try.func58 rfl Try.ntmps58 rfl (sq_ (qa0 [] [0, 1, 2] [] (ds_ (sq_ ?_))))))))))
  refine at_calm rfl (by kernel_rfl) (by kernel_rfl) ?_
  refine cm 5 [(3, .go (owns 0 1 1)), (4, .go (owns 7 0 1))] [0, 2] [(11, .slice (some ⟨g155, 0, none⟩) m m), (12, .int .i64 k)] ([]) (by kernel_rfl) rfl al0 ?_
  rcases hg311 : getK Vcp.id vs k with _ | y311
  ·
   have hpl311 := (pos_cut (k := k) (guests_iff.1 q5).vr).2.2
   refine cK (.tuple #[.int .i64 ((posK Vcp.id vs k : Nat)), .bool false]) Try.call56 (fun w hw => by have := placev_d (some ⟨g155, 0, none⟩) m m vs k w (hO306.atN (A := [_]) hw) hm (by omega) (guests_iff.1 q5).vr; rw [hasK_none hg311] at this; exact this) ?_
   refine cm 5 [] [0, 2] [(5, .int .i64 ((posK Vcp.id vs k : Nat))), (6, .bool false)] ([]) (by kernel_rfl) rfl al0 ?_
   refine calm_nil' ?_
   refine ds_ (sq_ (at_block (sq_ (qa0 [] [0, 2, 5] [(16, .bool true)] (ds_ (t_ (sq_ (qa0 [] [] [(4, .int .i64 4)] (ds_ (bk ([]) (.int .i64 4) (qo0 1 [] [4, 7] [(8, .int .i64 4)] (on_ (ds_ (sq_ (qa0 [] [4, 7, 8] [(37, .bool true)] (ds_ (t_ (sq_ (qa0 [(2, .go (owns 3 0 2))] [4] [(5, .int .i64 4)] (ds_ (bk (owns 3 0 2) (.tuple #[.agg #[.slice none 0 0, .slice none 0 0], .int .i64 4]) (qo0 4 [(5, .go (owns 5 0 2))] [6] [(7, .int .i64 4)] (on_ (ds_ (rt (owns 5 0 2) (.tuple #[.agg #[.slice none 0 0, .slice none 0 0], .int .i64 4]) ?_)))))))))))))))))))))))))
   exact fun w' hw => by rw [remaskV_none q5 hg311]; exact ⟨none, 0, 0, [], none, 0, 0, [], rfl, SlO.nil, SlO.nil, hw.below, hw.sub (List.nil_sublist _)⟩
  ·
   have hp_y311 := pos_getK (guests_iff.1 q5).vr hg311
   have hl_y311 := (List.getElem?_eq_some_iff.1 hp_y311).1
   refine cK (.tuple #[.int .i64 ((posK Vcp.id vs k : Nat)), .bool true]) Try.call56 (fun w hw => by have := placev_d (some ⟨g155, 0, none⟩) m m vs k w (hO306.atN (A := [_]) hw) hm (by omega) (guests_iff.1 q5).vr; rw [hasK_some hg311] at this; exact this) ?_
   refine cm 5 [] [0, 2] [(5, .int .i64 ((posK Vcp.id vs k : Nat))), (6, .bool true)] ([]) (by kernel_rfl) rfl al0 ?_
   refine calm_nil' ?_
   refine ds_ (sq_ (at_block (sq_ (qa0 [] [0, 2, 5] [(16, .bool false)] (ds_ (f_ (sq_ (ao_ (qo0 1 [(0, .go (owns 6 0 2))] [0, 2, 5] [(20, .agg #[.int .u32 h, .int .u32 s])] ?_)))))))))
   rcases q322 : maskB h s with _ | _
   ·
    refine cD (.int .i64 170) Try.call48 (fun w hw => by have := mask_d h s w; rw [q322] at this; exact this) (qo0 2 [] [0, 2, 5] [(19, .bool true)] (on_ (ds_ (t_ (sq_ (qa0 [] [] [(4, .int .i64 170)] (ds_ (bk ([]) (.int .i64 170) (qo0 1 [] [4, 7] [(8, .int .i64 170)] (on_ (ds_ (sq_ (qa0 [] [4, 7, 8] [(37, .bool true)] (ds_ (t_ (sq_ (qa0 [(2, .go (owns 3 0 2))] [4] [(5, .int .i64 170)] (ds_ (bk (owns 3 0 2) (.tuple #[.agg #[.slice none 0 0, .slice none 0 0], .int .i64 170]) (qo0 4 [(5, .go (owns 5 0 2))] [6] [(7, .int .i64 170)] (on_ (ds_ (rt (owns 5 0 2) (.tuple #[.agg #[.slice none 0 0, .slice none 0 0], .int .i64 170]) ?_)))))))))))))))))))))))
    exact fun w' hw => by rw [remaskV_mask q5 hg311 q322]; exact ⟨none, 0, 0, [], none, 0, 0, [], rfl, SlO.nil, SlO.nil, hw.below, hw.sub (List.nil_sublist _)⟩
   ·
    refine cD (.int .i64 0) Try.call48 (fun w hw => by have := mask_d h s w; rw [q322] at this; exact this) (qo0 2 [] [0, 2, 5] [(19, .bool false)] (on_ (ds_ (f_ (at_skip (done_block (ds_ (sq_ ?_))))))))
    refine at_any (by kernel_rfl) ?_
    refine tk (m := 5) [0, 1, 2, 4] [] [2] [(25, .pointer (some ⟨γ195 0, 1, none⟩)), (27, .int .i64 ((posK Vcp.id vs k : Nat)))] ([]) #[true, true, true, false, true, false, false, false, false] al0 ?_
    refine any_cut 1 #[true, true, true, true, true, true, true, true, false] ([(28, .agg #[.int .u32 h, .int .u32 s]), (30, .pointer (some ⟨g155, 0 + (posK Vcp.id vs k) * 4 + 2, none⟩))]) ([bx (γ195 0) (#[.slice (some ⟨g75, 0, none⟩) n n, .slice (some ⟨g155, 0, none⟩) m m]) 25, bx g155 ((sets c155 0 (vs.flatMap Enc.enc))) 43, bx g75 ((sets c75 0 (ds.flatMap Enc.enc))) 32, bx (γ3 1) (#[.slice none 0 0, .slice none 0 0]) 25, bx (γ3 0) (#[.slice p n cap, .slice q m capv]) 25, bx (γ1 3) (#[.slice none 0 0, .slice none 0 0]) 25, bx (γ1 2) (#[.int .u32 h, .int .u32 s]) 41, bx (γ1 1) (#[.int .i64 k]) 3, bx (γ1 0) (#[.slice p n cap, .slice q m capv]) 25]) ?_ (fun hm => ?_)
    rotate_left
    ·
     refine any_fork [3, 5] (by kernel_rfl) (by simp) (each_cons _ rfl ?_ (each_cons _ rfl ?_ (each_nil)))
     ·
      refine qo0 1 [(3, .go (owns 0 1 1))] [2, 27] [(26, .slice (some ⟨g155, 0, none⟩) m m)] ?_
      refine od_ ?_
      refine a1 5 rfl ?_
      refine qo0 1 [(5, .go (owns 6 0 2))] [26, 27] [(28, .agg #[.int .u32 h, .int .u32 s])] ?_
      refine od_ ?_
      refine tk (m := 1) [6, 7] [(6, .at g155 0 (posK Vcp.id vs k))] [28] [(30, .pointer (some ⟨g155, 0 + (posK Vcp.id vs k) * 4 + 2, none⟩))] ([(some ⟨g155, 0, none⟩ : Option Addr) = some ⟨g155, 0, none⟩, ((posK Vcp.id vs k : Nat)) = ((posK Vcp.id vs k : Nat) : Int), posK Vcp.id vs k < m]) #[true, true, true, true, true, true, true, true, false] (al2 rfl (al2 rfl (al1 (by omega)))) ?_
      exact any_weak hm [28, 30] (by kernel_rfl) rfl rfl rfl
     ·
      refine qo0 1 [(5, .go (owns 6 0 2))] [25, 27] [(28, .agg #[.int .u32 h, .int .u32 s])] ?_
      refine od_ ?_
      refine a1 3 rfl ?_
      refine qo0 1 [(3, .go (owns 0 1 1))] [27, 28] [(26, .slice (some ⟨g155, 0, none⟩) m m)] ?_
      refine od_ ?_
      refine tk (m := 1) [6, 7] [(6, .at g155 0 (posK Vcp.id vs k))] [28] [(30, .pointer (some ⟨g155, 0 + (posK Vcp.id vs k) * 4 + 2, none⟩))] ([(some ⟨g155, 0, none⟩ : Option Addr) = some ⟨g155, 0, none⟩, ((posK Vcp.id vs k : Nat)) = ((posK Vcp.id vs k : Nat) : Int), posK Vcp.id vs k < m]) #[true, true, true, true, true, true, true, true, false] (al2 rfl (al2 rfl (al1 (by omega)))) ?_
      exact any_weak hm [28, 30] (by kernel_rfl) rfl rfl rfl
    refine a1 8 rfl ?_
    refine mo 1 [(8, .go (ownps 1 (0 + (posK Vcp.id vs k) * 4 + 2) [undef, undef]))] [] (fun _ => []) (fun _ L => (L.set 1 (bx g155 ((((sets c155 0 (vs.flatMap Enc.enc))).setIfInBounds (0 + (posK Vcp.id vs k) * 4 + 2) (.int .u32 h)).setIfInBounds (0 + (posK Vcp.id vs k) * 4 + 2 + 1) (.int .u32 s)) 43))) (fun _ => [0 + (posK Vcp.id vs k) * 4 + 2 < ((sets c155 0 (vs.flatMap Enc.enc))).size] ++ ([0 + (posK Vcp.id vs k) * 4 + 2 + 1 < (((sets c155 0 (vs.flatMap Enc.enc))).setIfInBounds (0 + (posK Vcp.id vs k) * 4 + 2) (.int .u32 h)).size])) (fun _ => (alA (al1 (hOw306.room hm hp_y311 (f := 2) (by decide))) (al1 (by simp only [Array.size_setIfInBounds]; exact hOw306.room hm hp_y311 (f := 3) (by decide))))) (fun _ => ?_)
    refine od_ ?_
    refine any_nil (by kernel_rfl) ?_
    refine ds_ (sq_ (qa0 [] [] [(4, .int .i64 0)] (ds_ (bk ([]) (.int .i64 0) (qo0 1 [] [4, 7] [(8, .int .i64 0)] (on_ (ds_ (sq_ (qa0 [] [4, 7, 8] [(37, .bool false)] (ds_ (f_ (at_skip (ds_ (sq_ (ma0 [(0, .go (owns 0 0 2)), (1, .go (owns 3 0 2))] [4] (fun _ => [(5, .int .i64 0)]) (fun _ L => (L.set 3 (bx (γ3 1) (#[.slice (some ⟨g75, 0, none⟩) n n, .slice (some ⟨g155, 0, none⟩) m m]) 25))) (fun _ => ds_ (bk (owns 3 0 2) (.tuple #[.agg #[.slice (some ⟨g75, 0, none⟩) n n, .slice (some ⟨g155, 0, none⟩) m m], .int .i64 0]) (mo0 4 [(5, .go (owns 5 0 2))] [6] (fun _ => [(7, .int .i64 0)]) (fun _ L => (L.set 5 (bx (γ1 3) (#[.slice (some ⟨g75, 0, none⟩) n n, .slice (some ⟨g155, 0, none⟩) m m]) 25))) (fun _ => on_ (ds_ (rt (owns 5 0 2) (.tuple #[.agg #[.slice (some ⟨g75, 0, none⟩) n n, .slice (some ⟨g155, 0, none⟩) m m], .int .i64 0]) ?_)))))))))))))))))))))
    exact fun w' hw => by rw [remaskV_ok q5 hg311 q322]; exact ⟨_, _, _, _, _, _, _, _, rfl, hO303, (SlO.ofOwn (hOw306.put2 (x' := (⟨y311.id, y311.dom, h, s⟩ : Vcp)) (f := 2) hm hp_y311 (by decide) ⟨(⟨y311.id, y311.dom, h, y311.soft⟩ : Vcp), rfl⟩ rfl) (len_set hm)), hw.below, two_tails (Hs.pick [[bx (γ195 0) (#[.slice (some ⟨g75, 0, none⟩) n n, .slice (some ⟨g155, 0, none⟩) m m]) 25], [bx g155 ((((sets c155 0 (vs.flatMap Enc.enc))).setIfInBounds (0 + (posK Vcp.id vs k) * 4 + 2) (.int .u32 h)).setIfInBounds (0 + (posK Vcp.id vs k) * 4 + 2 + 1) (.int .u32 s)) 43], [bx g75 ((sets c75 0 (ds.flatMap Enc.enc))) 32], [bx (γ3 1) (#[.slice (some ⟨g75, 0, none⟩) n n, .slice (some ⟨g155, 0, none⟩) m m]) 25], [bx (γ3 0) (#[.slice p n cap, .slice q m capv]) 25], [bx (γ1 3) (#[.slice (some ⟨g75, 0, none⟩) n n, .slice (some ⟨g155, 0, none⟩) m m]) 25], [bx (γ1 2) (#[.int .u32 h, .int .u32 s]) 41], [bx (γ1 1) (#[.int .i64 k]) 3], [bx (γ1 0) (#[.slice p n cap, .slice q m capv]) 25]] [2, 1] [0, 3, 4, 5, 6, 7, 8] (by kernel_rfl) hw)⟩
end Go.Proofs.Ytnoefldpkfpglaa

/-! The walker: three bounds; what slices.Delete does to its row. -/
namespace Go.Proofs.Ytnoefldpkfpglaa
open Go Go.RowKit
section
variable {P : Program} {T e : TypeId} {n cap k by_ b o lo hi mx : Nat}
theorem slE_3 (hE : elemB P T e k by_ = true) (h1 : lo ≤ hi) (h2 : hi ≤ mx) (h3 : mx ≤ cap) (h4 : lo < mx) : SlRun P T (.slice (some ⟨b, o, none⟩) n cap) (some (.int .i64 (lo : Int))) (some (.int .i64 (hi : Int))) (some (.int .i64 (mx : Int))) (.slice (some ⟨b, o + lo * k, none⟩) (hi - lo) (mx - lo)) := by
  obtain ⟨hu, i, z, hi', _, _, hk, _⟩ := elemB_spec hE
  subst hk
  intro w
  have hne : ¬ mx = lo := by omega
  simp [Instr.sliceAt, Instr.slice, underlying, hu, Instr.sliceBounds, run_bound h1, run_bound h2, run_bound h3, sizeOf, typeInfo, hi', hne, addr_add]
theorem slE_mid (hE : elemB P T e k by_ = true) (h1 : lo ≤ hi) (h2 : hi ≤ cap) (h4 : lo < cap) : SlRun P T (.slice (some ⟨b, o, none⟩) n cap) (some (.int .i64 (lo : Int))) (some (.int .i64 (hi : Int))) none (.slice (some ⟨b, o + lo * k, none⟩) (hi - lo) (cap - lo)) := by
  obtain ⟨hu, i, z, hi', _, _, hk, _⟩ := elemB_spec hE
  subst hk
  intro w
  have hne : ¬ cap = lo := by omega
  simp [Instr.sliceAt, Instr.slice, underlying, hu, Instr.sliceBounds, run_bound h1, run_bound h2, sizeOf, typeInfo, hi', hne, addr_add]
end
section
variable {α : Type} [Enc α] {l : List α} {i i2 n cap : Nat} {cs : Array Value} {w : World}
theorem strike_room (h : OwnS (Enc.k α) (l.flatMap Enc.enc) n cap cs) (hi : i ≤ i2) (hi2 : i2 ≤ n) : 0 + i * Enc.k α + ((cs.toList.drop (0 + i2 * Enc.k α)).take ((n - i2) * Enc.k α)).length ≤ cs.size := by
  rw [row_len h hi2, h.csz, Nat.zero_add, ← Nat.add_mul]
  have := h.le
  exact Nat.mul_le_mul_right _ (by omega)
theorem strike_clear {vs : List Value} {o : Nat} (h : OwnS (Enc.k α) (l.flatMap Enc.enc) n cap cs) (hi : i ≤ n) : 0 + i * Enc.k α + (n - i) * Enc.k α ≤ (sets cs o vs).size := by
  rw [sets_size, h.csz, Nat.zero_add, ← Nat.add_mul]
  have := h.le
  exact Nat.mul_le_mul_right _ (by omega)
theorem src_strike {P : Program} {tx e : TypeId} (hu : P.underlying tx = some (.slice e)) (hz : n - i2 = 0) {c2 : Nat} {p : Option Addr} :
    Go.Src P (Enc.k α) tx (.slice p (n - i2) c2) (n - i2) ((cs.toList.drop (0 + i2 * Enc.k α)).take ((n - i2) * Enc.k α)) w := by
  rw [hz, Nat.zero_mul, List.take_zero]
  exact src_svn (α := α) (l2 := []) hu Sv.nil rfl
end
section
variable {E : Env} {k : List Fr} {l lx : Sl} {L : List Ob} {c d : Code}
/-- Ways that meet again. -/
theorem at_cutS (lx : Sl) (hfirst : Done E (.seq d :: k) lx L → At E (.seq d :: k) c l L) (hrest : At E k d lx L) : At E k (.seq c d) l L := at_seq (hfirst (done_seq hrest))
theorem Done.weakS {L : List Ob} {k : List Fr} {l lx : Sl} (h : Done E k lx L) (ts : List Nat) (hl : keepL l ts = some lx) : Done E k l L := ⟨fun a w ha hs => h.out a w (ha.sub (keepL_mem hl)) hs⟩
end
end Go.Proofs.Ytnoefldpkfpglaa

/-! slices.Delete. -/
namespace Go.Proofs.Ytnoefldpkfpglaa
open Go Go.RowKit

set_option maxRecDepth 100000 in
theorem deleteD_d (w0 : World) (X Y : List Ob) (p : Option Addr) (n cap : Nat) (l : List Dom) (i i2 : Nat) (w : World)
 (hH : Hs w0 (Y ++ X) w) (hO : SlO 32 Y p n cap l) (hi : i < i2) (hi2 : i2 ≤ n) (hb : n ≤ 1000)
 : Calls Try.prog 65 #[.slice p n cap, .int .i64 (i : Nat), .int .i64 (i2 : Nat)] w fun e w' => ∃ q capq Y', e = .returned (.slice q (i + (n - i2)) capq) ∧ SlO 32 Y' q (i + (n - i2)) capq (l.take i ++ l.drop i2) ∧ Hs w0 (Y' ++ X) w' := by
 have hn := hO.len
 obtain ⟨g, cs, rfl, rfl, hOw⟩ := hO.rowOf (i := i) (by omega)
 have hcap := hOw.le
 refine enter hH Try.func65 rfl Try.ntmps65 rfl (sq_ (qa0 [] [0, 1, 2] [] (ds_ (sq_ (qa [(5, .sl (.slice (some ⟨g, 0 + i * 4, none⟩) (i2 - i) (n - i)))] [0, 1, 2] [] ([SlRun Try.prog 22 (.slice (some ⟨g, 0, none⟩) n cap) (some (.int .i64 ((i : Nat)))) (some (.int .i64 ((i2 : Nat)))) (some (.int .i64 ((n : Nat)))) (.slice (some ⟨g, 0 + i * 4, none⟩) (i2 - i) (n - i))]) (al1 (slE_3 (P := Try.prog) (T := 22) (e := 32) (k := 4) (by_ := 32) (by kernel_rfl) (lo := i) (hi := i2) (mx := n) (by omega) (by omega) (by omega) (by omega))) (ds_ (sq_ (sq_ (qa [(2, .no)] [0, 1, 2] [(16, .bool false)] ([¬ (((i : Nat) : Int) = ((i2 : Nat) : Int))]) (al1 ((by omega))) (ds_ (f_ (at_skip (ds_ (sq_ (qa0 [] [0, 1, 2] [(7, .int .i64 ((n : Nat)))] (ds_ (sq_ ?_)))))))))))))))))
 by_cases q5 : cap = i2
 ·
  refine at_any (by kernel_rfl) ?_
  refine tk (m := 4) [0, 1, 3, 4] [] [0, 7] [(20, .slice (some ⟨g, 0, none⟩) n cap), (21, .int .i64 ((i : Nat))), (23, .slice (some ⟨g, 0, none⟩) n cap), (24, .int .i64 ((i2 : Nat)))] ([]) #[true, true, false, true, true, false, false, false] al0 ?_
  refine any_cut 2 #[true, true, true, true, true, true, false, false] ([(0, .slice (some ⟨g, 0, none⟩) n cap), (7, .int .i64 ((n : Nat))), (22, .slice (some ⟨g, 0, none⟩) i cap), (25, .slice (some ⟨g, 0, none⟩) (n - i2) (cap - i2))]) (bx g cs 32 :: X) ?_ (fun hm => ?_)
  rotate_left
  ·
   refine any_fork [2, 5] (by kernel_rfl) (by simp) (each_cons _ rfl ?_ (each_cons _ rfl ?_ (each_nil)))
   ·
    refine qo 1 [(2, .sl (.slice (some ⟨g, 0, none⟩) i cap))] [0, 7, 23, 24] [(22, .slice (some ⟨g, 0, none⟩) i cap)] ([SlRun Try.prog 22 (.slice (some ⟨g, 0, none⟩) n cap) none (some (.int .i64 ((i : Nat)))) none (.slice (some ⟨g, 0, none⟩) i cap)]) (al1 (slE_hi (P := Try.prog) (T := 22) (e := 32) (k := 4) (by_ := 32) (by kernel_rfl) (h := i) (by omega))) ?_
    refine od_ ?_
    refine a1 5 rfl ?_
    refine qo 1 [(5, .sl (.slice (some ⟨g, 0, none⟩) (n - i2) (cap - i2)))] [0, 7, 22] [(25, .slice (some ⟨g, 0, none⟩) (n - i2) (cap - i2))] ([SlRun Try.prog 22 (.slice (some ⟨g, 0, none⟩) n cap) (some (.int .i64 ((i2 : Nat)))) none none (.slice (some ⟨g, 0, none⟩) (n - i2) (cap - i2))]) (al1 (by have := slE_cut (P := Try.prog) (T := 22) (e := 32) (k := 4) (by_ := 32) (by kernel_rfl) (lo := i2) (p := some ⟨g, 0, none⟩) (n := n) (cap := cap) (by omega); rw [if_pos q5] at this; exact this)) ?_
    refine od_ ?_
    exact any_weak hm [0, 7, 22, 25] (by kernel_rfl) rfl rfl rfl
   ·
    refine qo 1 [(5, .sl (.slice (some ⟨g, 0, none⟩) (n - i2) (cap - i2)))] [0, 7, 20, 21] [(25, .slice (some ⟨g, 0, none⟩) (n - i2) (cap - i2))] ([SlRun Try.prog 22 (.slice (some ⟨g, 0, none⟩) n cap) (some (.int .i64 ((i2 : Nat)))) none none (.slice (some ⟨g, 0, none⟩) (n - i2) (cap - i2))]) (al1 (by have := slE_cut (P := Try.prog) (T := 22) (e := 32) (k := 4) (by_ := 32) (by kernel_rfl) (lo := i2) (p := some ⟨g, 0, none⟩) (n := n) (cap := cap) (by omega); rw [if_pos q5] at this; exact this)) ?_
    refine od_ ?_
    refine a1 2 rfl ?_
    refine qo 1 [(2, .sl (.slice (some ⟨g, 0, none⟩) i cap))] [0, 7, 25] [(22, .slice (some ⟨g, 0, none⟩) i cap)] ([SlRun Try.prog 22 (.slice (some ⟨g, 0, none⟩) n cap) none (some (.int .i64 ((i : Nat)))) none (.slice (some ⟨g, 0, none⟩) i cap)]) (al1 (slE_hi (P := Try.prog) (T := 22) (e := 32) (k := 4) (by_ := 32) (by kernel_rfl) (h := i) (by omega))) ?_
    refine od_ ?_
    exact any_weak hm [0, 7, 22, 25] (by kernel_rfl) rfl rfl rfl
  refine a1 6 rfl ?_
  refine ops_appendR 0 rfl (by kernel_rfl) (by kernel_rfl) (g := g) (n := i) (cap := cap) (m := n - i2) (c := cs) (yv := .slice (some ⟨g, 0, none⟩) (n - i2) (cap - i2)) ((cs.toList.drop (0 + i2 * 4)).take ((n - i2) * 4)) (by kernel_rfl) (by kernel_rfl) (T := 32) (ks := 4) (by_ := 32) (by kernel_rfl) (T' := 32) (by kernel_rfl) (by omega) (fun w hw => (src_strike (α := Dom) Try.underlying22 (by omega))) (strike_room hOw (by omega) (by omega)) ?_
  refine od_ ?_
  refine tk (m := 0) [7] [] [7] [(0, .slice (some ⟨g, 0, none⟩) (i + (n - i2)) cap)] ([]) #[true, true, true, true, true, true, true, true] al0 ?_
  refine any_nil (by kernel_rfl) ?_
  refine ds_ (sq_ (ao_ (qo 5 [(4, .sl (.slice (some ⟨g, 0 + (i + (n - i2)) * 4, none⟩) (n - (i + (n - i2))) (cap - (i + (n - i2)))))] [0] [(31, .slice (some ⟨g, 0 + (i + (n - i2)) * 4, none⟩) (n - (i + (n - i2))) (cap - (i + (n - i2))))] ([SlRun Try.prog 22 (.slice (some ⟨g, 0, none⟩) (i + (n - i2)) cap) (some (.int .i64 ((i + (n - i2) : Nat)))) (some (.int .i64 ((n : Nat)))) none (.slice (some ⟨g, 0 + (i + (n - i2)) * 4, none⟩) (n - (i + (n - i2))) (cap - (i + (n - i2))))]) (al1 (slE_mid (P := Try.prog) (T := 22) (e := 32) (k := 4) (by_ := 32) (by kernel_rfl) (lo := i + (n - i2)) (hi := n) (by omega) (by omega) (by omega))) (ops_clear 0 rfl (by kernel_rfl) (by kernel_rfl) (g := g) (of := 0 + (i + (n - i2)) * 4) (n := n - (i + (n - i2))) (dc := cap - (i + (n - i2))) (c := (sets cs (0 + i * 4) ((cs.toList.drop (0 + i2 * 4)).take ((n - i2) * 4)))) (by kernel_rfl) (T := 32) (ks := 4) (by_ := 32) (by kernel_rfl) (by kernel_rfl) rfl (strike_clear hOw (by omega)) (fun c2 hc2 hpre2 => on_ (ds_ (sq_ (qa0 [] [] [(6, .slice (some ⟨g, 0, none⟩) (i + (n - i2)) cap)] (ds_ (rt ([]) (.slice (some ⟨g, 0, none⟩) (i + (n - i2)) cap) ?_))))))))))
  exact fun w' hw => ⟨_, _, [_], rfl, .inr ⟨_, _, rfl, rfl, by rw [List.length_append, List.length_take, List.length_drop]; omega, hOw.strike hn (by omega) (by omega) (hc2.trans (sets_size ..)) hpre2⟩, hw⟩
 ·
  refine at_any (by kernel_rfl) ?_
  refine tk (m := 4) [0, 1, 3, 4] [] [0, 7] [(20, .slice (some ⟨g, 0, none⟩) n cap), (21, .int .i64 ((i : Nat))), (23, .slice (some ⟨g, 0, none⟩) n cap), (24, .int .i64 ((i2 : Nat)))] ([]) #[true, true, false, true, true, false, false, false] al0 ?_
  refine any_cut 2 #[true, true, true, true, true, true, false, false] ([(0, .slice (some ⟨g, 0, none⟩) n cap), (7, .int .i64 ((n : Nat))), (22, .slice (some ⟨g, 0, none⟩) i cap), (25, .slice (some ⟨g, 0 + i2 * 4, none⟩) (n - i2) (cap - i2))]) (bx g cs 32 :: X) ?_ (fun hm => ?_)
  rotate_left
  ·
   refine any_fork [2, 5] (by kernel_rfl) (by simp) (each_cons _ rfl ?_ (each_cons _ rfl ?_ (each_nil)))
   ·
    refine qo 1 [(2, .sl (.slice (some ⟨g, 0, none⟩) i cap))] [0, 7, 23, 24] [(22, .slice (some ⟨g, 0, none⟩) i cap)] ([SlRun Try.prog 22 (.slice (some ⟨g, 0, none⟩) n cap) none (some (.int .i64 ((i : Nat)))) none (.slice (some ⟨g, 0, none⟩) i cap)]) (al1 (slE_hi (P := Try.prog) (T := 22) (e := 32) (k := 4) (by_ := 32) (by kernel_rfl) (h := i) (by omega))) ?_
    refine od_ ?_
    refine a1 5 rfl ?_
    refine qo 1 [(5, .sl (.slice (some ⟨g, 0 + i2 * 4, none⟩) (n - i2) (cap - i2)))] [0, 7, 22] [(25, .slice (some ⟨g, 0 + i2 * 4, none⟩) (n - i2) (cap - i2))] ([SlRun Try.prog 22 (.slice (some ⟨g, 0, none⟩) n cap) (some (.int .i64 ((i2 : Nat)))) none none (.slice (some ⟨g, 0 + i2 * 4, none⟩) (n - i2) (cap - i2))]) (al1 (slE_lo (P := Try.prog) (T := 22) (e := 32) (k := 4) (by_ := 32) (by kernel_rfl) (lo := i2) (by omega) (by omega))) ?_
    refine od_ ?_
    exact any_weak hm [0, 7, 22, 25] (by kernel_rfl) rfl rfl rfl
   ·
    refine qo 1 [(5, .sl (.slice (some ⟨g, 0 + i2 * 4, none⟩) (n - i2) (cap - i2)))] [0, 7, 20, 21] [(25, .slice (some ⟨g, 0 + i2 * 4, none⟩) (n - i2) (cap - i2))] ([SlRun Try.prog 22 (.slice (some ⟨g, 0, none⟩) n cap) (some (.int .i64 ((i2 : Nat)))) none none (.slice (some ⟨g, 0 + i2 * 4, none⟩) (n - i2) (cap - i2))]) (al1 (slE_lo (P := Try.prog) (T := 22) (e := 32) (k := 4) (by_ := 32) (by kernel_rfl) (lo := i2) (by omega) (by omega))) ?_
    refine od_ ?_
    refine a1 2 rfl ?_
    refine qo 1 [(2, .sl (.slice (some ⟨g, 0, none⟩) i cap))] [0, 7, 25] [(22, .slice (some ⟨g, 0, none⟩) i cap)] ([SlRun Try.prog 22 (.slice (some ⟨g, 0, none⟩) n cap) none (some (.int .i64 ((i : Nat)))) none (.slice (some ⟨g, 0, none⟩) i cap)]) (al1 (slE_hi (P := Try.prog) (T := 22) (e := 32) (k := 4) (by_ := 32) (by kernel_rfl) (h := i) (by omega))) ?_
    refine od_ ?_
    exact any_weak hm [0, 7, 22, 25] (by kernel_rfl) rfl rfl rfl
  refine a1 6 rfl ?_
  refine ops_appendR 0 rfl (by kernel_rfl) (by kernel_rfl) (g := g) (n := i) (cap := cap) (m := n - i2) (c := cs) (yv := .slice (some ⟨g, 0 + i2 * 4, none⟩) (n - i2) (cap - i2)) ((cs.toList.drop (0 + i2 * 4)).take ((n - i2) * 4)) (by kernel_rfl) (by kernel_rfl) (T := 32) (ks := 4) (by_ := 32) (by kernel_rfl) (T' := 32) (by kernel_rfl) (by omega) (fun w hw => (src_own Try.underlying22 (hw.row 0 rfl) hOw (by omega))) (strike_room hOw (by omega) (by omega)) ?_
  refine od_ ?_
  refine tk (m := 0) [7] [] [7] [(0, .slice (some ⟨g, 0, none⟩) (i + (n - i2)) cap)] ([]) #[true, true, true, true, true, true, true, true] al0 ?_
  refine any_nil (by kernel_rfl) ?_
  refine ds_ (sq_ (ao_ (qo 5 [(4, .sl (.slice (some ⟨g, 0 + (i + (n - i2)) * 4, none⟩) (n - (i + (n - i2))) (cap - (i + (n - i2)))))] [0] [(31, .slice (some ⟨g, 0 + (i + (n - i2)) * 4, none⟩) (n - (i + (n - i2))) (cap - (i + (n - i2))))] ([SlRun Try.prog 22 (.slice (some ⟨g, 0, none⟩) (i + (n - i2)) cap) (some (.int .i64 ((i + (n - i2) : Nat)))) (some (.int .i64 ((n : Nat)))) none (.slice (some ⟨g, 0 + (i + (n - i2)) * 4, none⟩) (n - (i + (n - i2))) (cap - (i + (n - i2))))]) (al1 (slE_mid (P := Try.prog) (T := 22) (e := 32) (k := 4) (by_ := 32) (by kernel_rfl) (lo := i + (n - i2)) (hi := n) (by omega) (by omega) (by omega))) (ops_clear 0 rfl (by kernel_rfl) (by kernel_rfl) (g := g) (of := 0 + (i + (n - i2)) * 4) (n := n - (i + (n - i2))) (dc := cap - (i + (n - i2))) (c := (sets cs (0 + i * 4) ((cs.toList.drop (0 + i2 * 4)).take ((n - i2) * 4)))) (by kernel_rfl) (T := 32) (ks := 4) (by_ := 32) (by kernel_rfl) (by kernel_rfl) rfl (strike_clear hOw (by omega)) (fun c2 hc2 hpre2 => on_ (ds_ (sq_ (qa0 [] [] [(6, .slice (some ⟨g, 0, none⟩) (i + (n - i2)) cap)] (ds_ (rt ([]) (.slice (some ⟨g, 0, none⟩) (i + (n - i2)) cap) ?_))))))))))
  exact fun w' hw => ⟨_, _, [_], rfl, .inr ⟨_, _, rfl, rfl, by rw [List.length_append, List.length_take, List.length_drop]; omega, hOw.strike hn (by omega) (by omega) (hc2.trans (sets_size ..)) hpre2⟩, hw⟩

set_option maxRecDepth 100000 in
theorem deleteV_d (w0 : World) (X Y : List Ob) (p : Option Addr) (n cap : Nat) (l : List Vcp) (i i2 : Nat) (w : World)
 (hH : Hs w0 (Y ++ X) w) (hO : SlO 43 Y p n cap l) (hi : i < i2) (hi2 : i2 ≤ n) (hb : n ≤ 1000)
 : Calls Try.prog 57 #[.slice p n cap, .int .i64 (i : Nat), .int .i64 (i2 : Nat)] w fun e w' => ∃ q capq Y', e = .returned (.slice q (i + (n - i2)) capq) ∧ SlO 43 Y' q (i + (n - i2)) capq (l.take i ++ l.drop i2) ∧ Hs w0 (Y' ++ X) w' := by
 have hn := hO.len
 obtain ⟨g, cs, rfl, rfl, hOw⟩ := hO.rowOf (i := i) (by omega)
 have hcap := hOw.le
 refine enter hH Try.func57 rfl Try.ntmps57 rfl (sq_ (qa0 [] [0, 1, 2] [] (ds_ (sq_ (qa [(5, .sl (.slice (some ⟨g, 0 + i * 4, none⟩) (i2 - i) (n - i)))] [0, 1, 2] [] ([SlRun Try.prog 23 (.slice (some ⟨g, 0, none⟩) n cap) (some (.int .i64 ((i : Nat)))) (some (.int .i64 ((i2 : Nat)))) (some (.int .i64 ((n : Nat)))) (.slice (some ⟨g, 0 + i * 4, none⟩) (i2 - i) (n - i))]) (al1 (slE_3 (P := Try.prog) (T := 23) (e := 43) (k := 4) (by_ := 24) (by kernel_rfl) (lo := i) (hi := i2) (mx := n) (by omega) (by omega) (by omega) (by omega))) (ds_ (sq_ (sq_ (qa [(2, .no)] [0, 1, 2] [(16, .bool false)] ([¬ (((i : Nat) : Int) = ((i2 : Nat) : Int))]) (al1 ((by omega))) (ds_ (f_ (at_skip (ds_ (sq_ (qa0 [] [0, 1, 2] [(7, .int .i64 ((n : Nat)))] (ds_ (sq_ ?_)))))))))))))))))
 by_cases q5 : cap = i2
 ·
  refine at_any (by kernel_rfl) ?_
  refine tk (m := 4) [0, 1, 3, 4] [] [0, 7] [(20, .slice (some ⟨g, 0, none⟩) n cap), (21, .int .i64 ((i : Nat))), (23, .slice (some ⟨g, 0, none⟩) n cap), (24, .int .i64 ((i2 : Nat)))] ([]) #[true, true, false, true, true, false, false, false] al0 ?_
  refine any_cut 2 #[true, true, true, true, true, true, false, false] ([(0, .slice (some ⟨g, 0, none⟩) n cap), (7, .int .i64 ((n : Nat))), (22, .slice (some ⟨g, 0, none⟩) i cap), (25, .slice (some ⟨g, 0, none⟩) (n - i2) (cap - i2))]) (bx g cs 43 :: X) ?_ (fun hm => ?_)
  rotate_left
  ·
   refine any_fork [2, 5] (by kernel_rfl) (by simp) (each_cons _ rfl ?_ (each_cons _ rfl ?_ (each_nil)))
   ·
    refine qo 1 [(2, .sl (.slice (some ⟨g, 0, none⟩) i cap))] [0, 7, 23, 24] [(22, .slice (some ⟨g, 0, none⟩) i cap)] ([SlRun Try.prog 23 (.slice (some ⟨g, 0, none⟩) n cap) none (some (.int .i64 ((i : Nat)))) none (.slice (some ⟨g, 0, none⟩) i cap)]) (al1 (slE_hi (P := Try.prog) (T := 23) (e := 43) (k := 4) (by_ := 24) (by kernel_rfl) (h := i) (by omega))) ?_
    refine od_ ?_
    refine a1 5 rfl ?_
    refine qo 1 [(5, .sl (.slice (some ⟨g, 0, none⟩) (n - i2) (cap - i2)))] [0, 7, 22] [(25, .slice (some ⟨g, 0, none⟩) (n - i2) (cap - i2))] ([SlRun Try.prog 23 (.slice (some ⟨g, 0, none⟩) n cap) (some (.int .i64 ((i2 : Nat)))) none none (.slice (some ⟨g, 0, none⟩) (n - i2) (cap - i2))]) (al1 (by have := slE_cut (P := Try.prog) (T := 23) (e := 43) (k := 4) (by_ := 24) (by kernel_rfl) (lo := i2) (p := some ⟨g, 0, none⟩) (n := n) (cap := cap) (by omega); rw [if_pos q5] at this; exact this)) ?_
    refine od_ ?_
    exact any_weak hm [0, 7, 22, 25] (by kernel_rfl) rfl rfl rfl
   ·
    refine qo 1 [(5, .sl (.slice (some ⟨g, 0, none⟩) (n - i2) (cap - i2)))] [0, 7, 20, 21] [(25, .slice (some ⟨g, 0, none⟩) (n - i2) (cap - i2))] ([SlRun Try.prog 23 (.slice (some ⟨g, 0, none⟩) n cap) (some (.int .i64 ((i2 : Nat)))) none none (.slice (some ⟨g, 0, none⟩) (n - i2) (cap - i2))]) (al1 (by have := slE_cut (P := Try.prog) (T := 23) (e := 43) (k := 4) (by_ := 24) (by kernel_rfl) (lo := i2) (p := some ⟨g, 0, none⟩) (n := n) (cap := cap) (by omega); rw [if_pos q5] at this; exact this)) ?_
    refine od_ ?_
    refine a1 2 rfl ?_
    refine qo 1 [(2, .sl (.slice (some ⟨g, 0, none⟩) i cap))] [0, 7, 25] [(22, .slice (some ⟨g, 0, none⟩) i cap)] ([SlRun Try.prog 23 (.slice (some ⟨g, 0, none⟩) n cap) none (some (.int .i64 ((i : Nat)))) none (.slice (some ⟨g, 0, none⟩) i cap)]) (al1 (slE_hi (P := Try.prog) (T := 23) (e := 43) (k := 4) (by_ := 24) (by kernel_rfl) (h := i) (by omega))) ?_
    refine od_ ?_
    exact any_weak hm [0, 7, 22, 25] (by kernel_rfl) rfl rfl rfl
  refine a1 6 rfl ?_
  refine ops_appendR 0 rfl (by kernel_rfl) (by kernel_rfl) (g := g) (n := i) (cap := cap) (m := n - i2) (c := cs) (yv := .slice (some ⟨g, 0, none⟩) (n - i2) (cap - i2)) ((cs.toList.drop (0 + i2 * 4)).take ((n - i2) * 4)) (by kernel_rfl) (by kernel_rfl) (T := 43) (ks := 4) (by_ := 24) (by kernel_rfl) (T' := 43) (by kernel_rfl) (by omega) (fun w hw => (src_strike (α := Vcp) Try.underlying23 (by omega))) (strike_room hOw (by omega) (by omega)) ?_
  refine od_ ?_
  refine tk (m := 0) [7] [] [7] [(0, .slice (some ⟨g, 0, none⟩) (i + (n - i2)) cap)] ([]) #[true, true, true, true, true, true, true, true] al0 ?_
  refine any_nil (by kernel_rfl) ?_
  refine ds_ (sq_ (ao_ (qo 5 [(4, .sl (.slice (some ⟨g, 0 + (i + (n - i2)) * 4, none⟩) (n - (i + (n - i2))) (cap - (i + (n - i2)))))] [0] [(31, .slice (some ⟨g, 0 + (i + (n - i2)) * 4, none⟩) (n - (i + (n - i2))) (cap - (i + (n - i2))))] ([SlRun Try.prog 23 (.slice (some ⟨g, 0, none⟩) (i + (n - i2)) cap) (some (.int .i64 ((i + (n - i2) : Nat)))) (some (.int .i64 ((n : Nat)))) none (.slice (some ⟨g, 0 + (i + (n - i2)) * 4, none⟩) (n - (i + (n - i2))) (cap - (i + (n - i2))))]) (al1 (slE_mid (P := Try.prog) (T := 23) (e := 43) (k := 4) (by_ := 24) (by kernel_rfl) (lo := i + (n - i2)) (hi := n) (by omega) (by omega) (by omega))) (ops_clear 0 rfl (by kernel_rfl) (by kernel_rfl) (g := g) (of := 0 + (i + (n - i2)) * 4) (n := n - (i + (n - i2))) (dc := cap - (i + (n - i2))) (c := (sets cs (0 + i * 4) ((cs.toList.drop (0 + i2 * 4)).take ((n - i2) * 4)))) (by kernel_rfl) (T := 43) (ks := 4) (by_ := 24) (by kernel_rfl) (by kernel_rfl) rfl (strike_clear hOw (by omega)) (fun c2 hc2 hpre2 => on_ (ds_ (sq_ (qa0 [] [] [(6, .slice (some ⟨g, 0, none⟩) (i + (n - i2)) cap)] (ds_ (rt ([]) (.slice (some ⟨g, 0, none⟩) (i + (n - i2)) cap) ?_))))))))))
  exact fun w' hw => ⟨_, _, [_], rfl, .inr ⟨_, _, rfl, rfl, by rw [List.length_append, List.length_take, List.length_drop]; omega, hOw.strike hn (by omega) (by omega) (hc2.trans (sets_size ..)) hpre2⟩, hw⟩
 ·
  refine at_any (by kernel_rfl) ?_
  refine tk (m := 4) [0, 1, 3, 4] [] [0, 7] [(20, .slice (some ⟨g, 0, none⟩) n cap), (21, .int .i64 ((i : Nat))), (23, .slice (some ⟨g, 0, none⟩) n cap), (24, .int .i64 ((i2 : Nat)))] ([]) #[true, true, false, true, true, false, false, false] al0 ?_
  refine any_cut 2 #[true, true, true, true, true, true, false, false] ([(0, .slice (some ⟨g, 0, none⟩) n cap), (7, .int .i64 ((n : Nat))), (22, .slice (some ⟨g, 0, none⟩) i cap), (25, .slice (some ⟨g, 0 + i2 * 4, none⟩) (n - i2) (cap - i2))]) (bx g cs 43 :: X) ?_ (fun hm => ?_)
  rotate_left
  ·
   refine any_fork [2, 5] (by kernel_rfl) (by simp) (each_cons _ rfl ?_ (each_cons _ rfl ?_ (each_nil)))
   ·
    refine qo 1 [(2, .sl (.slice (some ⟨g, 0, none⟩) i cap))] [0, 7, 23, 24] [(22, .slice (some ⟨g, 0, none⟩) i cap)] ([SlRun Try.prog 23 (.slice (some ⟨g, 0, none⟩) n cap) none (some (.int .i64 ((i : Nat)))) none (.slice (some ⟨g, 0, none⟩) i cap)]) (al1 (slE_hi (P := Try.prog) (T := 23) (e := 43) (k := 4) (by_ := 24) (by kernel_rfl) (h := i) (by omega))) ?_
    refine od_ ?_
    refine a1 5 rfl ?_
    refine qo 1 [(5, .sl (.slice (some ⟨g, 0 + i2 * 4, none⟩) (n - i2) (cap - i2)))] [0, 7, 22] [(25, .slice (some ⟨g, 0 + i2 * 4, none⟩) (n - i2) (cap - i2))] ([SlRun Try.prog 23 (.slice (some ⟨g, 0, none⟩) n cap) (some (.int .i64 ((i2 : Nat)))) none none (.slice (some ⟨g, 0 + i2 * 4, none⟩) (n - i2) (cap - i2))]) (al1 (slE_lo (P := Try.prog) (T := 23) (e := 43) (k := 4) (by_ := 24) (by kernel_rfl) (lo := i2) (by omega) (by omega))) ?_
    refine od_ ?_
    exact any_weak hm [0, 7, 22, 25] (by kernel_rfl) rfl rfl rfl
   ·
    refine qo 1 [(5, .sl (.slice (some ⟨g, 0 + i2 * 4, none⟩) (n - i2) (cap - i2)))] [0, 7, 20, 21] [(25, .slice (some ⟨g, 0 + i2 * 4, none⟩) (n - i2) (cap - i2))] ([SlRun Try.prog 23 (.slice (some ⟨g, 0, none⟩) n cap) (some (.int .i64 ((i2 : Nat)))) none none (.slice (some ⟨g, 0 + i2 * 4, none⟩) (n - i2) (cap - i2))]) (al1 (slE_lo (P := Try.prog) (T := 23) (e := 43) (k := 4) (by_ := 24) (by kernel_rfl) (lo := i2) (by omega) (by omega))) ?_
    refine od_ ?_
    refine a1 2 rfl ?_
    refine qo 1 [(2, .sl (.slice (some ⟨g, 0, none⟩) i cap))] [0, 7, 25] [(22, .slice (some ⟨g, 0, none⟩) i cap)] ([SlRun Try.prog 23 (.slice (some ⟨g, 0, none⟩) n cap) none (some (.int .i64 ((i : Nat)))) none (.slice (some ⟨g, 0, none⟩) i cap)]) (al1 (slE_hi (P := Try.prog) (T := 23) (e := 43) (k := 4) (by_ := 24) (by kernel_rfl) (h := i) (by omega))) ?_
    refine od_ ?_
    exact any_weak hm [0, 7, 22, 25] (by kernel_rfl) rfl rfl rfl
  refine a1 6 rfl ?_
  refine ops_appendR 0 rfl (by kernel_rfl) (by kernel_rfl) (g := g) (n := i) (cap := cap) (m := n - i2) (c := cs) (yv := .slice (some ⟨g, 0 + i2 * 4, none⟩) (n - i2) (cap - i2)) ((cs.toList.drop (0 + i2 * 4)).take ((n - i2) * 4)) (by kernel_rfl) (by kernel_rfl) (T := 43) (ks := 4) (by_ := 24) (by kernel_rfl) (T' := 43) (by kernel_rfl) (by omega) (fun w hw => (src_own Try.underlying23 (hw.row 0 rfl) hOw (by omega))) (strike_room hOw (by omega) (by omega)) ?_
  refine od_ ?_
  refine tk (m := 0) [7] [] [7] [(0, .slice (some ⟨g, 0, none⟩) (i + (n - i2)) cap)] ([]) #[true, true, true, true, true, true, true, true] al0 ?_
  refine any_nil (by kernel_rfl) ?_
  refine ds_ (sq_ (ao_ (qo 5 [(4, .sl (.slice (some ⟨g, 0 + (i + (n - i2)) * 4, none⟩) (n - (i + (n - i2))) (cap - (i + (n - i2)))))] [0] [(31, .slice (some ⟨g, 0 + (i + (n - i2)) * 4, none⟩) (n - (i + (n - i2))) (cap - (i + (n - i2))))] ([SlRun Try.prog 23 (.slice (some ⟨g, 0, none⟩) (i + (n - i2)) cap) (some (.int .i64 ((i + (n - i2) : Nat)))) (some (.int .i64 ((n : Nat)))) none (.slice (some ⟨g, 0 + (i + (n - i2)) * 4, none⟩) (n - (i + (n - i2))) (cap - (i + (n - i2))))]) (al1 (slE_mid (P := Try.prog) (T := 23) (e := 43) (k := 4) (by_ := 24) (by kernel_rfl) (lo := i + (n - i2)) (hi := n) (by omega) (by omega) (by omega))) (ops_clear 0 rfl (by kernel_rfl) (by kernel_rfl) (g := g) (of := 0 + (i + (n - i2)) * 4) (n := n - (i + (n - i2))) (dc := cap - (i + (n - i2))) (c := (sets cs (0 + i * 4) ((cs.toList.drop (0 + i2 * 4)).take ((n - i2) * 4)))) (by kernel_rfl) (T := 43) (ks := 4) (by_ := 24) (by kernel_rfl) (by kernel_rfl) rfl (strike_clear hOw (by omega)) (fun c2 hc2 hpre2 => on_ (ds_ (sq_ (qa0 [] [] [(6, .slice (some ⟨g, 0, none⟩) (i + (n - i2)) cap)] (ds_ (rt ([]) (.slice (some ⟨g, 0, none⟩) (i + (n - i2)) cap) ?_))))))))))
  exact fun w' hw => ⟨_, _, [_], rfl, .inr ⟨_, _, rfl, rfl, by rw [List.length_append, List.length_take, List.length_drop]; omega, hOw.strike hn (by omega) (by omega) (hc2.trans (sets_size ..)) hpre2⟩, hw⟩
end Go.Proofs.Ytnoefldpkfpglaa
