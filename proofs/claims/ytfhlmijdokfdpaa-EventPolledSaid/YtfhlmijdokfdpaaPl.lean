/- slices.Insert. -/
import Derived.Test.YtfhlmijdokfdpaaPj
import Derived.Test.YtfhlmijdokfdpaaPk
import Derived.Test.YtfhlmijdokfdpaaEi
namespace Go.Proofs.Ytfhlmijdokfdpaa
open Go Go.RowKit

set_option maxRecDepth 100000 in
theorem insert_d (w0 : World) (X Y : List Ob) (p : Option Addr) (n cap : Nat) (l : List Port) (i gv : Nat) (cv : Array Value) (m : Nat) (vl : List Port) (w : World)
    (hH : Hs w0 (bx gv cv 40 :: (Y ++ X)) w) (hO : SlO 40 Y p n cap l) (hcv : cv.toList = vl.flatMap Enc.enc) (hm : m = vl.length) (hm0 : 0 < m) (hi : i ≤ n) (hb : n ≤ 1000) (hmb : m ≤ 1000)
    : Calls Try.prog 56 #[.slice p n cap, .int .i64 (i : Nat), .slice (some ⟨gv, 0, none⟩) m m] w fun e w' => ∃ q capq Y', e = .returned (.slice q (n + m) capq) ∧ SlO 40 Y' q (n + m) capq (l.take i ++ vl ++ l.drop i) ∧ Hs w0 (Y' ++ X) w' := by
  have hn := hO.len
  refine enter hH Try.func56 rfl Try.ntmps56 rfl ?_
  refine at_seq ?_
  refine aq [] [0, 1, 2] [] ([]) (fun _ => by kernel_rfl) al0 ?_
  refine done_seq ?_
  refine at_seq ?_
  refine aq [(2, .sl (.slice (if cap = i then p else p.map (·.add (i * 5))) (n - i) (cap - i)))] [0, 1, 2] [] ([SlRun Try.prog 22 (.slice p n cap) (some (.int .i64 ((i : Nat)))) none none (.slice (if cap = i then p else p.map (·.add (i * 5))) (n - i) (cap - i))]) (fun _ => by kernel_rfl) (al1 (slE_cut (P := Try.prog) (T := 22) (e := 40) (k := 5) (by_ := 32) (by kernel_rfl) hi)) ?_
  refine done_seq ?_
  refine at_seq ?_
  refine aq [] [0, 1, 2] [(7, .int .i64 ((m : Nat)))] ([]) (fun _ => by kernel_rfl) al0 ?_
  refine done_seq ?_
  refine at_seq ?_
  refine at_seq ?_
  refine aq [(1, .no)] [0, 1, 2, 7] [(16, .bool false)] ([¬ (((m : Nat) : Int) = (0 : Int))]) (fun _ => by kernel_rfl) (al1 ((by omega))) ?_
  refine done_seq ?_
  refine at_false (by kernel_rfl) ?_
  refine at_skip ?_
  refine done_seq ?_
  refine at_seq ?_
  refine aq [] [0, 1, 2, 7] [(8, .int .i64 ((n : Nat)))] ([]) (fun _ => by kernel_rfl) al0 ?_
  refine done_seq ?_
  refine at_seq ?_
  refine at_seq ?_
  by_cases q7 : ((i : Nat) : Int) = ((n : Nat) : Int)
  ·
    refine aq [(2, .yes)] [0, 1, 2, 7, 8] [(22, .bool true)] ([((i : Nat) : Int) = ((n : Nat) : Int)]) (fun _ => by kernel_rfl) (al1 q7) ?_
    refine done_seq ?_
    refine at_true (by kernel_rfl) ?_
    refine at_seq ?_
    refine at_ops ?_
    refine oq 2 [] [] [(23, .slice p n cap), (24, .slice (some ⟨gv, 0, none⟩) m m)] ([]) (fun _ => by kernel_rfl) al0 ?_
    refine ops_append (α := Port) [bx gv cv 40] Y X (.refl _) rfl (by kernel_rfl) (by kernel_rfl) (p := p) (n := n) (cap := cap) (m := m) (yv := .slice (some ⟨gv, 0, none⟩) m m) (by kernel_rfl) (by kernel_rfl) (T := 40) (by_ := 32) (by kernel_rfl) l vl hO (fun w hw => src_svn Try.underlying22 (sv_row (hw.row 0 rfl) hcv) hm) hm (by have hmx : maxLen = 9223372036854775807 := rfl; omega) (by have hmx : maxLen = 9223372036854775807 := rfl; omega) (fun Y10 p10 cap10 hO10 => ?_)
    refine oq 1 [] [] [(6, .slice p10 (n + m) cap10)] ([]) (fun _ => by kernel_rfl) al0 ?_
    refine ops_nil ?_
    refine done_seq ?_
    refine at_return ([]) (.slice p10 (n + m) cap10) [] (by kernel_rfl) (by kernel_rfl) al0 ?_
    exact fun w' hw => ⟨_, _, _, rfl, by rw [show i = l.length by omega, List.take_length, List.drop_length, List.append_nil]; exact hO10, hw.tailN 1⟩
  ·
    refine aq [(2, .no)] [0, 1, 2, 7, 8] [(22, .bool false)] ([¬ (((i : Nat) : Int) = ((n : Nat) : Int))]) (fun _ => by kernel_rfl) (al1 q7) ?_
    refine done_seq ?_
    refine at_false (by kernel_rfl) ?_
    refine at_skip ?_
    refine done_seq ?_
    refine at_seq ?_
    refine at_seq ?_
    obtain ⟨g, cs, rfl, rfl, hOw⟩ := hO.rowOf (i := i) (by omega)
    have hcap := hOw.le
    have hcs := hOw.csz
    have hmax := hOw.max
    by_cases q15 : ((n + m : Nat) : Int) > ((cap : Nat) : Int)
    ·
      refine aq [(2, .fit), (5, .yes)] [0, 1, 2, 7, 8] [(31, .bool true)] ([Fit .i64 ((n + m : Nat))] ++ ([((n + m : Nat) : Int) > ((cap : Nat) : Int)])) (fun _ => by kernel_rfl) (alA (al1 (fit64 (by omega) (by omega))) (al1 q15)) ?_
      refine done_seq ?_
      refine at_true (by kernel_rfl) ?_
      refine at_seq ?_
      refine at_ops ?_
      refine oq 8 [(2, .sl (.slice (some ⟨g, 0, none⟩) i cap)), (5, .fit), (7, .is [] (.int .i64 ((n + m - i : Nat))))] [0, 1, 2, 7] [(34, .slice (some ⟨g, 0, none⟩) i cap), (39, .int .i64 ((n + m - i : Nat)))] ([SlRun Try.prog 22 (.slice (some ⟨g, 0, none⟩) n cap) none (some (.int .i64 ((i : Nat)))) none (.slice (some ⟨g, 0, none⟩) i cap)] ++ ([Fit .i64 ((n + m : Nat))] ++ ([Value.int .i64 (IntKind.i64.wrap ((((n + m : Nat)) : Int) - ((i : Nat) : Int))) = .int .i64 ((n + m - i : Nat))]))) (fun _ => by kernel_rfl) (alA (al1 (slE_hi (P := Try.prog) (T := 22) (e := 40) (k := 5) (by_ := 32) (by kernel_rfl) (h := i) (by omega))) (alA (al1 (fit64 (by omega) (by omega))) (al1 (by rw [wrap_fit (fit64 (by omega) (by omega))]; congr 1; omega)))) ?_
      refine ops_appendZ rfl (by kernel_rfl) (by kernel_rfl) (p := some ⟨g, 0, none⟩) (m := i) (cap := cap) (n := n + m - i) ((cs.toList.drop 0).take (i * 5)) (by kernel_rfl) (by kernel_rfl) (T := 40) (ks := 5) (by_ := 32) (by kernel_rfl) Try.underlying3 (by decide) (olds_len hcs (by omega)) (fun w hw => first_row (hw.row 1 rfl) (by rw [hcs, Nat.zero_add]; exact Nat.mul_le_mul_right _ (by omega))) (by omega) (by omega) (by simp only [maxLen]; omega) (by omega) (fun g2 c2 cap2 hc2 hle2 hmax2 hpre2 => ?_)
      refine oq 1 [] [0, 1, 2, 7] [(9, .slice (some ⟨g2, 0, none⟩) (i + (n + m - i)) cap2)] ([]) (fun _ => by kernel_rfl) al0 ?_
      refine ops_nil ?_
      refine done_seq ?_
      refine at_seq ?_
      refine at_ops ?_
      refine oq 4 [(2, .sl (.slice (some ⟨g2, 0 + i * 5, none⟩) (i + (n + m - i) - i) (cap2 - i)))] [0, 1, 7, 9] [(43, .slice (some ⟨g2, 0 + i * 5, none⟩) (i + (n + m - i) - i) (cap2 - i)), (44, .slice (some ⟨gv, 0, none⟩) m m)] ([SlRun Try.prog 22 (.slice (some ⟨g2, 0, none⟩) (i + (n + m - i)) cap2) (some (.int .i64 ((i : Nat)))) none none (.slice (some ⟨g2, 0 + i * 5, none⟩) (i + (n + m - i) - i) (cap2 - i))]) (fun _ => by kernel_rfl) (al1 (slE_lo (P := Try.prog) (T := 22) (e := 40) (k := 5) (by_ := 32) (by kernel_rfl) (lo := i) (by omega) (by omega))) ?_
      refine ops_copy 0 rfl (by kernel_rfl) (by kernel_rfl) (g := g2) (of := (0 + i * 5)) (dn := (i + (n + m - i) - i)) (dc := (cap2 - i)) (m := m) (cnt := m) (c := c2) (yv := (.slice (some ⟨gv, 0, none⟩) m m)) (vl.flatMap Enc.enc) (by kernel_rfl) (by kernel_rfl) (T := 40) (ks := 5) (by_ := 32) (by kernel_rfl) (T' := 40) (by kernel_rfl) len_slice (by omega) (fun w hw => by have := first_sv (P := Try.prog) (w := w) (p := some ⟨gv, 0, none⟩) (m := m) (cap := m) (cnt := m) (sv_row (hw.row 1 rfl) hcv) (by omega); rw [List.take_of_length_le (by omega)] at this; exact this) (by rw [flat_len, ← hm]; exact mul_room (c := cap2) (by omega) hc2) (flat_one vl) ?_
      refine ops_nil ?_
      refine done_seq ?_
      refine at_seq ?_
      refine at_any (by kernel_rfl) ?_
      refine any_tk (f := 3) [0, 1, 2, 3, 5, 6] [(3, .fit)] [9] [(46, .slice (some ⟨g2, 0, none⟩) (i + (n + m - i)) cap2), (49, .int .i64 ((i + m : Nat))), (51, .slice (some ⟨g, 0, none⟩) n cap), (52, .int .i64 ((i : Nat)))] ([Fit .i64 ((i + m : Nat))]) #[true, true, true, true, false, true, true, false, false] (by kernel_rfl) (by kernel_rfl) (al1 (fit64 (by omega) (by omega))) ?_
      refine any_cut 1 #[true, true, true, true, true, true, true, true, false] ([(9, .slice (some ⟨g2, 0, none⟩) (i + (n + m - i)) cap2), (50, .slice (some ⟨g2, 0 + (i + m) * 5, none⟩) (i + (n + m - i) - (i + m)) (cap2 - (i + m))), (53, .slice (some ⟨g, 0 + i * 5, none⟩) (n - i) (cap - i))]) (bx g2 ((sets c2 (0 + i * 5) (vl.flatMap Enc.enc))) 40 :: bx gv cv 40 :: bx g cs 40 :: X) ?_ (fun hm => ?_)
      rotate_left
      ·
        refine any_fork [4, 7] (by kernel_rfl) (by simp) (each_cons _ rfl ?_ (each_cons _ rfl ?_ (each_nil)))
        ·
          refine oq 1 [(4, .sl (.slice (some ⟨g2, 0 + (i + m) * 5, none⟩) (i + (n + m - i) - (i + m)) (cap2 - (i + m))))] [9, 51, 52] [(50, .slice (some ⟨g2, 0 + (i + m) * 5, none⟩) (i + (n + m - i) - (i + m)) (cap2 - (i + m)))] ([SlRun Try.prog 22 (.slice (some ⟨g2, 0, none⟩) (i + (n + m - i)) cap2) (some (.int .i64 ((i + m : Nat)))) none none (.slice (some ⟨g2, 0 + (i + m) * 5, none⟩) (i + (n + m - i) - (i + m)) (cap2 - (i + m)))]) (fun _ => by kernel_rfl) (al1 (slE_lo (P := Try.prog) (T := 22) (e := 40) (k := 5) (by_ := 32) (by kernel_rfl) (lo := i + m) (by omega) (by omega))) ?_
          refine ops_nil ?_
          refine done_any ?_
          refine any_one 7 _ (by kernel_rfl) rfl ?_
          refine oq 1 [(7, .sl (.slice (some ⟨g, 0 + i * 5, none⟩) (n - i) (cap - i)))] [9, 50] [(53, .slice (some ⟨g, 0 + i * 5, none⟩) (n - i) (cap - i))] ([SlRun Try.prog 22 (.slice (some ⟨g, 0, none⟩) n cap) (some (.int .i64 ((i : Nat)))) none none (.slice (some ⟨g, 0 + i * 5, none⟩) (n - i) (cap - i))]) (fun _ => by kernel_rfl) (al1 (slE_lo (P := Try.prog) (T := 22) (e := 40) (k := 5) (by_ := 32) (by kernel_rfl) (lo := i) (by omega) (by omega))) ?_
          refine ops_nil ?_
          refine done_any ?_
          exact any_weak hm [9, 50, 53] (by kernel_rfl) rfl rfl rfl
        ·
          refine oq 1 [(7, .sl (.slice (some ⟨g, 0 + i * 5, none⟩) (n - i) (cap - i)))] [9, 46, 49] [(53, .slice (some ⟨g, 0 + i * 5, none⟩) (n - i) (cap - i))] ([SlRun Try.prog 22 (.slice (some ⟨g, 0, none⟩) n cap) (some (.int .i64 ((i : Nat)))) none none (.slice (some ⟨g, 0 + i * 5, none⟩) (n - i) (cap - i))]) (fun _ => by kernel_rfl) (al1 (slE_lo (P := Try.prog) (T := 22) (e := 40) (k := 5) (by_ := 32) (by kernel_rfl) (lo := i) (by omega) (by omega))) ?_
          refine ops_nil ?_
          refine done_any ?_
          refine any_one 4 _ (by kernel_rfl) rfl ?_
          refine oq 1 [(4, .sl (.slice (some ⟨g2, 0 + (i + m) * 5, none⟩) (i + (n + m - i) - (i + m)) (cap2 - (i + m))))] [9, 53] [(50, .slice (some ⟨g2, 0 + (i + m) * 5, none⟩) (i + (n + m - i) - (i + m)) (cap2 - (i + m)))] ([SlRun Try.prog 22 (.slice (some ⟨g2, 0, none⟩) (i + (n + m - i)) cap2) (some (.int .i64 ((i + m : Nat)))) none none (.slice (some ⟨g2, 0 + (i + m) * 5, none⟩) (i + (n + m - i) - (i + m)) (cap2 - (i + m)))]) (fun _ => by kernel_rfl) (al1 (slE_lo (P := Try.prog) (T := 22) (e := 40) (k := 5) (by_ := 32) (by kernel_rfl) (lo := i + m) (by omega) (by omega))) ?_
          refine ops_nil ?_
          refine done_any ?_
          exact any_weak hm [9, 50, 53] (by kernel_rfl) rfl rfl rfl
      refine any_one 8 _ (by kernel_rfl) rfl ?_
      refine ops_copy 0 rfl (by kernel_rfl) (by kernel_rfl) (g := g2) (of := (0 + (i + m) * 5)) (dn := (i + (n + m - i) - (i + m))) (dc := (cap2 - (i + m))) (m := (n - i)) (cnt := (n - i)) (c := ((sets c2 (0 + i * 5) (vl.flatMap Enc.enc)))) (yv := (.slice (some ⟨g, 0 + i * 5, none⟩) (n - i) (cap - i))) ((cs.toList.drop (0 + i * 5)).take ((n - i) * 5)) (by kernel_rfl) (by kernel_rfl) (T := 40) (ks := 5) (by_ := 32) (by kernel_rfl) (T' := 40) (by kernel_rfl) len_slice (by omega) (fun w hw => first_row (hw.row 2 rfl) (row_room hOw (by omega))) (by rw [sets_size]; exact copy_room (c := cap2) hOw (by omega) (by omega) hc2) (row_one hOw (by omega)) ?_
      refine ops_nil ?_
      refine done_any ?_
      refine any_nil (by kernel_rfl) ?_
      refine done_seq ?_
      refine at_seq ?_
      refine aq [] [] [(6, .slice (some ⟨g2, 0, none⟩) (i + (n + m - i)) cap2)] ([]) (fun _ => by kernel_rfl) al0 ?_
      refine done_seq ?_
      refine at_return ([]) (.slice (some ⟨g2, 0, none⟩) (i + (n + m - i)) cap2) [] (by kernel_rfl) (by kernel_rfl) al0 ?_
      exact fun w' hw => ⟨some ⟨g2, 0, none⟩, cap2, [_], by rw [show i + (n + m - i) = n + m by omega], .inr ⟨_, _, rfl, rfl, by simp; omega, ins_grow hOw (by omega) hm (by omega) hc2 (by omega) hmax2 hpre2⟩, hw.sub (.cons_cons _ (.cons _ (.cons _ (.refl _))))⟩
    ·
      refine aq [(2, .fit), (5, .no)] [0, 1, 2, 7, 8] [(31, .bool false)] ([Fit .i64 ((n + m : Nat))] ++ ([¬ (((n + m : Nat) : Int) > ((cap : Nat) : Int))])) (fun _ => by kernel_rfl) (alA (al1 (fit64 (by omega) (by omega))) (al1 q15)) ?_
      refine done_seq ?_
      refine at_false (by kernel_rfl) ?_
      refine at_skip ?_
      refine done_seq ?_
      refine at_seq ?_
      refine aq [(3, .fit), (4, .sl (.slice (some ⟨g, 0, none⟩) (n + m) cap))] [1, 2, 7, 8] [(0, .slice (some ⟨g, 0, none⟩) (n + m) cap)] ([Fit .i64 ((n + m : Nat))] ++ ([SlRun Try.prog 22 (.slice (some ⟨g, 0, none⟩) n cap) none (some (.int .i64 ((n + m : Nat)))) none (.slice (some ⟨g, 0, none⟩) (n + m) cap)])) (fun _ => by kernel_rfl) (alA (al1 (fit64 (by omega) (by omega))) (al1 (slE_hi (P := Try.prog) (T := 22) (e := 40) (k := 5) (by_ := 32) (by kernel_rfl) (h := n + m) (by omega)))) ?_
      refine done_seq ?_
      refine at_seq ?_
      refine at_seq ?_
      refine at_ops ?_
      refine oq 6 [(4, .fit), (5, .sl (.slice (some ⟨g, 0 + (i + m) * 5, none⟩) (n + m - (i + m)) (cap - (i + m))))] [0, 1, 2, 7, 8] [(61, .slice (some ⟨gv, 0, none⟩) m m), (66, .slice (some ⟨g, 0 + (i + m) * 5, none⟩) (n + m - (i + m)) (cap - (i + m)))] ([Fit .i64 ((i + m : Nat))] ++ ([SlRun Try.prog 22 (.slice (some ⟨g, 0, none⟩) (n + m) cap) (some (.int .i64 ((i + m : Nat)))) none none (.slice (some ⟨g, 0 + (i + m) * 5, none⟩) (n + m - (i + m)) (cap - (i + m)))])) (fun _ => by kernel_rfl) (alA (al1 (fit64 (by omega) (by omega))) (al1 (slE_lo (P := Try.prog) (T := 22) (e := 40) (k := 5) (by_ := 32) (by kernel_rfl) (lo := i + m) (by omega) (by omega)))) ?_
      refine ops_ext (f := 73) (args := #[.slice (some ⟨gv, 0, none⟩) m m, .slice (some ⟨g, 0 + (i + m) * 5, none⟩) (n + m - (i + m)) (cap - (i + m))]) (.bool false) (by kernel_rfl) (by kernel_rfl) (by kernel_rfl) (fun w hw => overlaps_no (hw.row 0 rfl) (hw.row 1 rfl) (apart_two hw (a := 0) (b := 1) rfl rfl (by decide))) ?_
      refine oq 1 [] [0, 1, 2, 7, 8] [(68, .bool true)] ([]) (fun _ => by kernel_rfl) al0 ?_
      refine ops_nil ?_
      refine done_seq ?_
      refine at_true (by kernel_rfl) ?_
      refine at_seq ?_
      refine at_any (by kernel_rfl) ?_
      refine any_tk (f := 3) [0, 1, 2, 3, 5, 6] [(3, .fit)] [0, 1, 2] [(69, .slice (some ⟨g, 0, none⟩) (n + m) cap), (72, .int .i64 ((i + m : Nat))), (74, .slice (some ⟨g, 0, none⟩) (n + m) cap), (75, .int .i64 ((i : Nat)))] ([Fit .i64 ((i + m : Nat))]) #[true, true, true, true, false, true, true, false, false] (by kernel_rfl) (by kernel_rfl) (al1 (fit64 (by omega) (by omega))) ?_
      refine any_cut 1 #[true, true, true, true, true, true, true, true, false] ([(0, .slice (some ⟨g, 0, none⟩) (n + m) cap), (1, .int .i64 ((i : Nat))), (2, .slice (some ⟨gv, 0, none⟩) m m), (73, .slice (some ⟨g, 0 + (i + m) * 5, none⟩) (n + m - (i + m)) (cap - (i + m))), (76, .slice (some ⟨g, 0 + i * 5, none⟩) (n + m - i) (cap - i))]) (bx gv cv 40 :: bx g cs 40 :: X) ?_ (fun hm => ?_)
      rotate_left
      ·
        refine any_fork [4, 7] (by kernel_rfl) (by simp) (each_cons _ rfl ?_ (each_cons _ rfl ?_ (each_nil)))
        ·
          refine oq 1 [(4, .sl (.slice (some ⟨g, 0 + (i + m) * 5, none⟩) (n + m - (i + m)) (cap - (i + m))))] [0, 1, 2, 74, 75] [(73, .slice (some ⟨g, 0 + (i + m) * 5, none⟩) (n + m - (i + m)) (cap - (i + m)))] ([SlRun Try.prog 22 (.slice (some ⟨g, 0, none⟩) (n + m) cap) (some (.int .i64 ((i + m : Nat)))) none none (.slice (some ⟨g, 0 + (i + m) * 5, none⟩) (n + m - (i + m)) (cap - (i + m)))]) (fun _ => by kernel_rfl) (al1 (slE_lo (P := Try.prog) (T := 22) (e := 40) (k := 5) (by_ := 32) (by kernel_rfl) (lo := i + m) (by omega) (by omega))) ?_
          refine ops_nil ?_
          refine done_any ?_
          refine any_one 7 _ (by kernel_rfl) rfl ?_
          refine oq 1 [(7, .sl (.slice (some ⟨g, 0 + i * 5, none⟩) (n + m - i) (cap - i)))] [0, 1, 2, 73] [(76, .slice (some ⟨g, 0 + i * 5, none⟩) (n + m - i) (cap - i))] ([SlRun Try.prog 22 (.slice (some ⟨g, 0, none⟩) (n + m) cap) (some (.int .i64 ((i : Nat)))) none none (.slice (some ⟨g, 0 + i * 5, none⟩) (n + m - i) (cap - i))]) (fun _ => by kernel_rfl) (al1 (slE_lo (P := Try.prog) (T := 22) (e := 40) (k := 5) (by_ := 32) (by kernel_rfl) (lo := i) (by omega) (by omega))) ?_
          refine ops_nil ?_
          refine done_any ?_
          exact any_weak hm [0, 1, 2, 73, 76] (by kernel_rfl) rfl rfl rfl
        ·
          refine oq 1 [(7, .sl (.slice (some ⟨g, 0 + i * 5, none⟩) (n + m - i) (cap - i)))] [0, 1, 2, 69, 72] [(76, .slice (some ⟨g, 0 + i * 5, none⟩) (n + m - i) (cap - i))] ([SlRun Try.prog 22 (.slice (some ⟨g, 0, none⟩) (n + m) cap) (some (.int .i64 ((i : Nat)))) none none (.slice (some ⟨g, 0 + i * 5, none⟩) (n + m - i) (cap - i))]) (fun _ => by kernel_rfl) (al1 (slE_lo (P := Try.prog) (T := 22) (e := 40) (k := 5) (by_ := 32) (by kernel_rfl) (lo := i) (by omega) (by omega))) ?_
          refine ops_nil ?_
          refine done_any ?_
          refine any_one 4 _ (by kernel_rfl) rfl ?_
          refine oq 1 [(4, .sl (.slice (some ⟨g, 0 + (i + m) * 5, none⟩) (n + m - (i + m)) (cap - (i + m))))] [0, 1, 2, 76] [(73, .slice (some ⟨g, 0 + (i + m) * 5, none⟩) (n + m - (i + m)) (cap - (i + m)))] ([SlRun Try.prog 22 (.slice (some ⟨g, 0, none⟩) (n + m) cap) (some (.int .i64 ((i + m : Nat)))) none none (.slice (some ⟨g, 0 + (i + m) * 5, none⟩) (n + m - (i + m)) (cap - (i + m)))]) (fun _ => by kernel_rfl) (al1 (slE_lo (P := Try.prog) (T := 22) (e := 40) (k := 5) (by_ := 32) (by kernel_rfl) (lo := i + m) (by omega) (by omega))) ?_
          refine ops_nil ?_
          refine done_any ?_
          exact any_weak hm [0, 1, 2, 73, 76] (by kernel_rfl) rfl rfl rfl
      refine any_one 8 _ (by kernel_rfl) rfl ?_
      refine ops_copy 1 rfl (by kernel_rfl) (by kernel_rfl) (g := g) (of := (0 + (i + m) * 5)) (dn := (n + m - (i + m))) (dc := (cap - (i + m))) (m := (n + m - i)) (cnt := (n - i)) (c := cs) (yv := (.slice (some ⟨g, 0 + i * 5, none⟩) (n + m - i) (cap - i))) ((cs.toList.drop (0 + i * 5)).take ((n - i) * 5)) (by kernel_rfl) (by kernel_rfl) (T := 40) (ks := 5) (by_ := 32) (by kernel_rfl) (T' := 40) (by kernel_rfl) len_slice (by omega) (fun w hw => first_row (hw.row 1 rfl) (row_room hOw (by omega))) (copy_room (c := cap) hOw (by omega) (by omega) hcs) (row_one hOw (by omega)) ?_
      refine ops_nil ?_
      refine done_any ?_
      refine any_nil (by kernel_rfl) ?_
      refine done_seq ?_
      refine at_seq ?_
      refine at_ops ?_
      refine oq 4 [(2, .sl (.slice (some ⟨g, 0 + i * 5, none⟩) (n + m - i) (cap - i)))] [0] [(80, .slice (some ⟨g, 0 + i * 5, none⟩) (n + m - i) (cap - i)), (81, .slice (some ⟨gv, 0, none⟩) m m)] ([SlRun Try.prog 22 (.slice (some ⟨g, 0, none⟩) (n + m) cap) (some (.int .i64 ((i : Nat)))) none none (.slice (some ⟨g, 0 + i * 5, none⟩) (n + m - i) (cap - i))]) (fun _ => by kernel_rfl) (al1 (slE_lo (P := Try.prog) (T := 22) (e := 40) (k := 5) (by_ := 32) (by kernel_rfl) (lo := i) (by omega) (by omega))) ?_
      refine ops_copy 1 rfl (by kernel_rfl) (by kernel_rfl) (g := g) (of := (0 + i * 5)) (dn := (n + m - i)) (dc := (cap - i)) (m := m) (cnt := m) (c := ((sets cs (0 + (i + m) * 5) ((cs.toList.drop (0 + i * 5)).take ((n - i) * 5))))) (yv := (.slice (some ⟨gv, 0, none⟩) m m)) (vl.flatMap Enc.enc) (by kernel_rfl) (by kernel_rfl) (T := 40) (ks := 5) (by_ := 32) (by kernel_rfl) (T' := 40) (by kernel_rfl) len_slice (by omega) (fun w hw => by have := first_sv (P := Try.prog) (w := w) (p := some ⟨gv, 0, none⟩) (m := m) (cap := m) (cnt := m) (sv_row (hw.row 0 rfl) hcv) (by omega); rw [List.take_of_length_le (by omega)] at this; exact this) (by rw [flat_len, ← hm, sets_size]; exact mul_room (c := cap) (by omega) hcs) (flat_one vl) ?_
      refine ops_nil ?_
      refine done_seq ?_
      refine at_seq ?_
      refine aq [] [] [(6, .slice (some ⟨g, 0, none⟩) (n + m) cap)] ([]) (fun _ => by kernel_rfl) al0 ?_
      refine done_seq ?_
      refine at_return ([]) (.slice (some ⟨g, 0, none⟩) (n + m) cap) [] (by kernel_rfl) (by kernel_rfl) al0 ?_
      exact fun w' hw => ⟨_, _, [_], rfl, .inr ⟨_, _, rfl, rfl, by simp; omega, ins_room hOw (by omega) hm (by omega) (by omega)⟩, hw.sub (.cons _ (.refl _))⟩
end Go.Proofs.Ytfhlmijdokfdpaa
