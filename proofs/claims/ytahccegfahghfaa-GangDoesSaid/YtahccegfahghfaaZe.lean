/- Texts of this proof, one behind the other. -/
import Derived.Test.YtahccegfahghfaaZd
import Derived.Test.YtahccegfahghfaaZc
import Derived.Test.YtahccegfahghfaaZa
import Derived.ProofKit
import Derived.Carry
import Derived.Deep.Slices
import Derived.Lib.SmallJoins
import Derived.Test.YtahccegfahghfaaProg
/-! The document: Form. -/
namespace Go.Proofs.Ytahccegfahghfaa
open Go Go.RowKit
theorem rf_fin {al bl : List GngA} {l : List Int} {i : Nat} {y : GngA} (hg : gangB (al.map GngA.val) = true) (hm : mayB l = true) (ha : l.any (inV (al.map GngA.val)) = false) (hgi : i = gapA al + 1) (h8 : ¬ ((i : Nat) : Int) > 8) (hB : bl.map GngA.val = al.map GngA.val) (hy : y.val = (((i : Nat) : Int), l)) : ((bl.take (gapA bl) ++ [y] ++ bl.drop (gapA bl)).map GngA.val, ((i : Nat) : Int), (0 : Int)) = formV (al.map GngA.val) l := by
  have h9 : ¬ gapV 0 (al.map GngA.val) = 8 := fun e => by have : gapA al = 8 := e; omega
  subst hgi
  rw [rf_ok hg hm ha h9, gap_cong hB, forml_val hB (y := y) hy]
  rfl
theorem rf_gap {al : List GngA} {i : Nat} (h1 : 1 ≤ i) (h2 : i ≤ gapA al + 1) (h : ∀ x ∈ al, ¬ x.id = ((i : Nat) : Int)) : i = gapA al + 1 := by
  by_cases e : i ≤ gapA al
  · obtain ⟨x, hx, he⟩ := gapA_at (al := al) (i := i - 1) (by omega)
    exact absurd (by omega) (h x (List.mem_of_getElem? hx))
  · omega
theorem rf_more {al : List GngA} {i i0 : Nat} {x : GngA} (hg : gangB (al.map GngA.val) = true) (h2 : i ≤ gapA al + 1) (hx : al[i0]? = some x) (he : x.id = ((i : Nat) : Int)) : i + 1 ≤ gapA al + 1 := by
  by_cases e : i = gapA al + 1
  · exact absurd (by omega) (gapA_free hg x (List.mem_of_getElem? hx))
  · omega
theorem ins_hs {w0 w : World} {Y Yi Yc Yq : List Ob} (hp : (Yi ++ Yc).Perm Yq) (h : Hs w0 (Y ++ (Yi ++ (Yc ++ []))) w) : Hs w0 (Y ++ Yq) w := by
  refine h.perm (List.Perm.append_left _ ?_)
  rw [List.append_nil]
  exact hp

set_option maxRecDepth 100000 in
theorem rform_t (q : Option Addr) (m capq : Nat) (al : List GngA) (p : Option Addr) (n cap : Nat) (l : List Int) (w : World)
    (hal : Sv w q al) (hma : m = al.length) (hbm : m ≤ 1000) (hnm : ∀ x ∈ al, x.Reads w) (hm9 : ∀ x ∈ al, x.n ≤ 1000)
    (hsl : Sv w p l) (hn : n = l.length) (hb : n ≤ 1000)
    (hgd : gangB (al.map GngA.val) = true)
    : Calls Try.prog 47 #[.agg #[.slice q m capq], .slice p n cap] w fun e w' => ∃ er q' n' c' Y Yi bl idn, e = .returned (.tuple #[.agg #[.slice q' n' c'], .int .i64 idn, .int .i64 er]) ∧ (bl.map GngA.val, idn, er) = formV (al.map GngA.val) l ∧ SlO 46 Y q' n' c' bl ∧ GotG 3 Yi bl ∧ Below w.heap.size w w' ∧ Hs w (Y ++ Yi) w' := by
  refine enter (Hs.start w) Try.func47 rfl Try.ntmps47 rfl (sq_ (ma0 [] [1] (fun γ1 => [(2, .pointer (some ⟨γ1 0, 0, none⟩)), (4, .pointer (some ⟨γ1 1, 0, none⟩))]) (fun γ1 L => bx (γ1 1) (#[.slice none 0 0]) 38 :: bx (γ1 0) (#[.slice q m capq]) 38 :: L) (fun γ1 => ds_ (sq_ (sq_ (ao_ (qo0 1 [] [1, 2, 4] [(15, .slice p n cap)] ?_)))))))
  rcases q3 : mayB l with _ | _
  ·
    refine cD (.bool false) Try.call40 (fun w hw => by have := rmembers_t p n cap l w (hsl.kept hw.below) hn (by omega); rw [q3] at this; exact this) (qo0 1 [] [1, 2, 4] [(17, .bool true)] (on_ (ds_ (t_ (sq_ (qa0 [(1, .go (owns 0 0 1))] [4] [(5, .int .i64 0), (6, .int .i64 2)] (ds_ (rt (owns 0 0 1) (.tuple #[.agg #[.slice none 0 0], .int .i64 0, .int .i64 2]) ?_))))))))
    exact fun w' hw => ⟨_, none, 0, 0, [], [], [], _, rfl, (rf_arg hgd q3).symm, SlO.nil, GotG.nil, hw.below, hw.sub (List.nil_sublist _)⟩
  ·
    refine cD (.bool true) Try.call40 (fun w hw => by have := rmembers_t p n cap l w (hsl.kept hw.below) hn (by omega); rw [q3] at this; exact this) (qo0 1 [] [1, 2, 4] [(17, .bool false)] (on_ (ds_ (f_ (at_skip (ds_ (sq_ (sq_ (qa0 [] [1, 2, 4] [(19, .slice p n cap), (20, .int .i64 (n : Nat)), (21, .int .i64 0)] (ds_ (at_block (at_loop (α := Nat) [1, 2, 4, 19, 20, 21] (fun j => [(1, .slice p n cap), (2, .pointer (some ⟨γ1 0, 0, none⟩)), (4, .pointer (some ⟨γ1 1, 0, none⟩)), (19, .slice p n cap), (20, .int .i64 (n : Nat)), (21, .int .i64 (j : Nat))]) (fun j => [bx (γ1 1) (#[.slice none 0 0]) 38, bx (γ1 0) (#[.slice q m capq]) 38]) (fun j => j ≤ n ∧ ∀ (t : Nat) (y : Int), t < j → l[t]? = some y → ¬ rofV (al.map GngA.val) y > 0) (fun j => n - j) 0 (by kernel_rfl) rfl ⟨Nat.zero_le _, fun t y h => by omega⟩ ?_))))))))))))
    rintro j
    rintro ⟨hj, hI⟩
    refine sq_ ?_
    by_cases q9 : ((j : Nat) : Int) < ((n : Nat) : Int)
    ·
      refine qa [(0, .yes)] [1, 2, 4, 19, 20, 21] [(22, .bool true)] ([((j : Nat) : Int) < ((n : Nat) : Int)]) (al1 q9) (ds_ (sq_ (t_ (at_skip (ds_ (sq_ (at_block (sq_ ?_))))))))
      obtain ⟨b12, o12, rfl⟩ := hsl.pos (i := j) (by omega)
      obtain ⟨x14, hx14⟩ := get_some (l := l) (m := j) (by omega)
      refine qa [(0, .at b12 o12 j), (1, .go (outs b12 (o12 + j * 1) [.int .i64 x14]))] [1, 2, 4, 19, 20, 21] [(8, .int .i64 x14)] ([(some ⟨b12, o12, none⟩ : Option Addr) = some ⟨b12, o12, none⟩, (j : Nat) = ((j : Nat) : Int), j < n] ++ (cellsP w b12 (o12 + j * 1) [.int .i64 x14])) (alA (al2 rfl (al2 rfl (al1 (by omega)))) (rd_pre (hsl.get hx14) _ rfl)) (ds_ (sq_ (ao_ (qo0 2 [(0, .go (owns 1 0 1))] [1, 2, 4, 19, 20, 21] [(25, .agg #[.slice q m capq]), (26, .int .i64 x14)] (cD (.int .i64 (rofV (al.map GngA.val) x14)) Try.call24 (fun w hw => rof_t q m capq al x14 w (hal.kept hw.below) hma (by omega) (fun x hx => (hnm x hx).kept hw.below) hm9) ?_)))))
      by_cases q18 : ((rofV (al.map GngA.val) x14) : Int) > (0 : Int)
      ·
        refine qo 1 [(3, .yes)] [1, 2, 4, 19, 20, 21] [(28, .bool true)] ([((rofV (al.map GngA.val) x14) : Int) > (0 : Int)]) (al1 q18) (on_ (ds_ (t_ (sq_ (qa0 [(1, .go (owns 0 0 1))] [4] [(5, .int .i64 0), (6, .int .i64 5)] (ds_ (rt (owns 0 0 1) (.tuple #[.agg #[.slice none 0 0], .int .i64 0, .int .i64 5]) ?_)))))))
        exact fun w' hw => ⟨_, none, 0, 0, [], [], [], _, rfl, (rf_there hgd q3 (any_rof hgd hx14 q18)).symm, SlO.nil, GotG.nil, hw.below, hw.sub (List.nil_sublist _)⟩
      ·
        refine qo 1 [(3, .no)] [1, 2, 4, 19, 20, 21] [(28, .bool false)] ([¬ (((rofV (al.map GngA.val) x14) : Int) > (0 : Int))]) (al1 q18) (on_ (ds_ (f_ (at_skip (done_block (ds_ (qa [(0, .fit)] [1, 2, 4, 19, 20] [(21, .int .i64 (j + 1 : Nat))] ([Fit .i64 ((j + 1 : Nat))]) (al1 (fit64 (by omega) (by omega))) ?_)))))))
        exact dr [1, 2, 4, 19, 20, 21] (j + 1) ⟨by omega, fun t y ht e => by by_cases htj : t = j; (subst htj; rw [hx14] at e; cases e; exact q18); exact hI t y (by omega) e⟩
    ·
      refine qa [(0, .no)] [1, 2, 4, 19, 20, 21] [(22, .bool false)] ([¬ (((j : Nat) : Int) < ((n : Nat) : Int))]) (al1 q9) (ds_ (sq_ (f_ (at_leave _ rfl (ds_ (sq_ (qa0 [] [1, 2, 4] [(9, .int .i64 1)] (ds_ (sq_ (at_block ?_))))))))))
      have ha := any_not hgd (by omega) hI
      refine at_loop (α := Nat) [1, 2, 4, 9] (fun i => [(1, .slice p n cap), (2, .pointer (some ⟨γ1 0, 0, none⟩)), (4, .pointer (some ⟨γ1 1, 0, none⟩)), (9, .int .i64 (i : Nat))]) (fun i => [bx (γ1 1) (#[.slice none 0 0]) 38, bx (γ1 0) (#[.slice q m capq]) 38]) (fun i => 1 ≤ i ∧ i ≤ gapA al + 1) (fun i => gapA al + 2 - i) 1 (by kernel_rfl) rfl ⟨Nat.le_refl _, by omega⟩ ?_
      rintro i
      rintro ⟨hi, hig⟩
      have hg8 := gapA_le (al := al)
      refine sq_ (sq_ (ao_ (qo0 2 [(0, .go (owns 1 0 1))] [1, 2, 4, 9] [(31, .agg #[.slice q m capq]), (32, .int .i64 (i : Nat))] ?_)))
      rcases get_cases al (i : Nat) with ⟨hge, hgn⟩ | ⟨i0, x0, hx0, hk0, hge⟩
      ·
        refine cD (.slice none 0 0) Try.call23 (fun w hw => by have := rget_t q m capq al (i : Nat) w (hal.kept hw.below) hma hbm (fun x hx => (hnm x hx).kept hw.below) hm9; rw [hge] at this; exact this) (qo0 1 [] [1, 2, 4, 9] [(34, .bool false)] (on_ (ds_ (f_ (at_leave _ rfl (ds_ (sq_ (sq_ ?_))))))))
        have hgi := rf_gap hi hig hgn
        have hl8 := gang_len8 hgd
        by_cases q28 : ((i : Nat) : Int) > (8 : Int)
        ·
          refine qa [(1, .yes)] [1, 2, 4, 9] [(38, .bool true)] ([((i : Nat) : Int) > (8 : Int)]) (al1 q28) (ds_ (t_ (sq_ (qa0 [(1, .go (owns 0 0 1))] [4] [(5, .int .i64 0), (6, .int .i64 6)] (ds_ (rt (owns 0 0 1) (.tuple #[.agg #[.slice none 0 0], .int .i64 0, .int .i64 6]) ?_))))))
          exact fun w' hw => ⟨_, none, 0, 0, [], [], [], _, rfl, (rf_full hgd q3 ha (show gapA al = 8 by omega)).symm, SlO.nil, GotG.nil, hw.below, hw.sub (List.nil_sublist _)⟩
        ·
          refine qa [(1, .no)] [1, 2, 4, 9] [(38, .bool false)] ([¬ (((i : Nat) : Int) > (8 : Int))]) (al1 q28) (ds_ (f_ (at_skip (ds_ (sq_ (ma0 [] [1, 2, 4, 9] (fun γ32 => [(10, .pointer (some ⟨γ32 0, 0, none⟩))]) (fun γ32 L => bx (γ32 0) (#[.slice none 0 0]) 38 :: L) (fun γ32 => ds_ (sq_ (ao_ (mo0 3 [] [2, 4, 9, 10] (fun γ33 => [(40, .int .i64 (i : Nat)), (41, .slice (some ⟨γ33 0, 0, none⟩) 0 0), (42, .slice p n cap)]) (fun γ33 L => bx (γ33 0) (#[]) 3 :: L) (fun γ33 => ops_append (α := Int) [bx (γ32 0) (#[.slice none 0 0]) 38, bx (γ1 1) (#[.slice none 0 0]) 38, bx (γ1 0) (#[.slice q m capq]) 38] ([bx (γ33 0) (#[]) 3]) ([]) (mvE rfl) rfl (by kernel_rfl) (by kernel_rfl) (p := (some ⟨γ33 0, 0, none⟩)) (n := 0) (cap := 0) (m := n) (yv := .slice p n cap) (by kernel_rfl) (by kernel_rfl) (T := 3) (by_ := 8) (by kernel_rfl) ([]) l (SlO.lit (by rfl) (by rfl) (by simp [maxLen])) (fun w hw => src_svn Try.underlying25 (hsl.kept hw.below) hn) hn (by have hmx : maxLen = 9223372036854775807 := rfl; omega) (by have hmx : maxLen = 9223372036854775807 := rfl; omega) (fun Y34 p34 cap34 hO34 => mo0 3 [(6, .go (owns 0 0 2))] [2, 4, 9, 10] (fun γ35 => [(11, .pointer (some ⟨γ35 0, 0, none⟩))]) (fun γ35 L => bx (γ35 0) (#[.int .i64 (i : Nat), .slice p34 (0 + n) cap34]) 46 :: L) (fun γ35 => on_ (ds_ (sq_ (qa0 [] [2, 4, 9, 10, 11] [(12, .bool false)] (ds_ (sq_ (sq_ (ao_ (qo0 1 [(0, .go (owns 3 0 1))] [4, 9, 10, 11, 12] [(45, .agg #[.slice q m capq])] (cP (fun v L' => ∃ q_ n_ c_ Y_ Z_ bl_, v = .agg #[.slice q_ n_ c_] ∧ L' = List.take 4 (bx (γ35 0) (#[.int .i64 (i : Nat), .slice p34 (0 + n) cap34]) 46 :: bx (γ32 0) (#[.slice none 0 0]) 38 :: bx (γ1 1) (#[.slice none 0 0]) 38 :: bx (γ1 0) (#[.slice q m capq]) 38 :: (Y34 ++ [])) ++ (Y_ ++ (Z_ ++ List.drop 4 (bx (γ35 0) (#[.int .i64 (i : Nat), .slice p34 (0 + n) cap34]) 46 :: bx (γ32 0) (#[.slice none 0 0]) 38 :: bx (γ1 1) (#[.slice none 0 0]) 38 :: bx (γ1 0) (#[.slice q m capq]) 38 :: (Y34 ++ [])))) ∧ SlO 46 Y_ q_ n_ c_ bl_ ∧ GotG 3 Z_ bl_ ∧ bl_.map GngA.val = (al.map GngA.val)) Try.call28 (fun w hw => (rcopy_t q m capq al w (hal.kept hw.below) hma hbm (fun x hx => (hnm x hx).kept hw.below) hm9).mono fun e w' ⟨q_, n_, c_, Y_, bl_, Z_, he, hO, hG, hB, hb, hY⟩ => ⟨_, _, he, ⟨q_, n_, c_, Y_, Z_, bl_, rfl, rfl, hO, hG, hB⟩, hs_re (hw.join hb hY 4)⟩) ?_))))))))))))))))))))))
          rintro v38 L38 ⟨q38, n38, c38, Y38, Yz38, bl38, rfl, rfl, hO38, hG38, hB38⟩
          have hl38 := hO38.len
          have hbl38 : bl38.length = al.length := by have := congrArg List.length hB38; simpa using this
          refine qo0 3 [] [4, 9, 10, 11, 12] [(47, .slice q38 n38 c38), (48, .int .i64 (n38 : Nat)), (49, .int .i64 0)] (on_ (ds_ (at_block ?_)))
          have hga := gap_cong hB38
          have hgb : gangB (bl38.map GngA.val) = true := by rw [hB38]; exact hgd
          refine At.pick [[bx (γ35 0) (#[.int .i64 (i : Nat), .slice p34 (0 + n) cap34]) 46], [bx (γ32 0) (#[.slice none 0 0]) 38], [bx (γ1 1) (#[.slice none 0 0]) 38], [bx (γ1 0) (#[.slice q m capq]) 38], Y38, Yz38, Y34] [1, 0, 2, 4, 5, 6] [3] (bx (γ32 0) (#[.slice none 0 0]) 38 :: bx (γ35 0) (#[.int .i64 (i : Nat), .slice p34 (0 + n) cap34]) 46 :: bx (γ1 1) (#[.slice none 0 0]) 38 :: (Y38 ++ (Yz38 ++ (Y34 ++ [])))) (by kernel_rfl) rfl rfl (at_loop (α := Nat × Bool × List Ob × Option Addr × Nat × Nat) [4, 9, 10, 11, 12, 47, 48, 49] (fun ⟨j, dn, Yo, po, nu, co⟩ => [(4, .pointer (some ⟨γ1 1, 0, none⟩)), (9, .int .i64 (i : Nat)), (10, .pointer (some ⟨γ32 0, 0, none⟩)), (11, .pointer (some ⟨γ35 0, 0, none⟩)), (12, .bool dn), (47, .slice q38 n38 c38), (48, .int .i64 (n38 : Nat)), (49, .int .i64 (j : Nat))]) (fun ⟨j, dn, Yo, po, nu, co⟩ => bx (γ32 0) (#[.slice po nu co]) 38 :: bx (γ35 0) (#[.int .i64 (i : Nat), .slice p34 (0 + n) cap34]) 46 :: bx (γ1 1) (#[.slice none 0 0]) 38 :: (Yo ++ (Y38 ++ (Yz38 ++ (Y34 ++ []))))) (fun ⟨j, dn, Yo, po, nu, co⟩ => j ≤ n38 ∧ nu ≤ 2 * j ∧ dn = decide (gapA bl38 < j) ∧ SlO 46 Yo po nu co (outT bl38 (⟨(i : Nat), p34, (0 + n), cap34, ([] ++ l)⟩ : GngA) j)) (fun ⟨j, dn, Yo, po, nu, co⟩ => n38 - j) (0, false, [], none, 0, 0) (by kernel_rfl) rfl ⟨Nat.zero_le _, by omega, rfl, SlO.as14 SlO.nil (show [] = _ by unfold outT; rw [if_pos (Nat.zero_le _), List.take_zero])⟩ ?_)
          rintro ⟨j, dn, Yo, po, nu, co⟩
          rintro ⟨hj, hnu, hdn, hO⟩
          have hlo := hO.len
          refine sq_ ?_
          by_cases q41 : ((j : Nat) : Int) < ((n38 : Nat) : Int)
          ·
            refine qa [(0, .yes)] [4, 9, 10, 11, 12, 47, 48, 49] [(50, .bool true)] ([((j : Nat) : Int) < ((n38 : Nat) : Int)]) (al1 q41) (ds_ (sq_ (t_ (at_skip (ds_ (sq_ (at_block (sq_ (At.pick [[bx (γ32 0) (#[.slice po nu co]) 38], [bx (γ35 0) (#[.int .i64 (i : Nat), .slice p34 (0 + n) cap34]) 46], [bx (γ1 1) (#[.slice none 0 0]) 38], Yo, Y38, Yz38, Y34] [0, 1, 2, 4, 3, 5, 6] [] (bx (γ32 0) (#[.slice po nu co]) 38 :: bx (γ35 0) (#[.int .i64 (i : Nat), .slice p34 (0 + n) cap34]) 46 :: bx (γ1 1) (#[.slice none 0 0]) 38 :: (Y38 ++ (Yo ++ (Yz38 ++ (Y34 ++ []))))) (by kernel_rfl) rfl rfl ?_)))))))))
            have hln44 := hO38.len
            obtain ⟨g44, cs44, rfl, rfl, hOw44⟩ := hO38.rowOf (i := j) (by omega)
            obtain ⟨x46, hx46⟩ := get_some (l := bl38) (m := j) (by omega)
            refine ma [(0, .at g44 0 j), (1, .go (ownps 3 (0 + j * 2) [.int .i64 x46.id, .slice x46.p x46.n x46.cap])), (3, .go (owns 0 0 2))] [4, 9, 10, 11, 12, 47, 48, 49] (fun γ47 => [(14, .pointer (some ⟨γ47 0, 0, none⟩))]) (fun γ47 L => bx (γ47 0) (#[.int .i64 x46.id, .slice x46.p x46.n x46.cap]) 46 :: L) (fun γ47 => [(some ⟨g44, 0, none⟩ : Option Addr) = some ⟨g44, 0, none⟩, (j : Nat) = ((j : Nat) : Int), j < n38] ++ (acellsP cs44 (0 + j * 2) [.int .i64 x46.id, .slice x46.p x46.n x46.cap])) (fun γ47 => (alA (al2 rfl (al2 rfl (al1 (by omega)))) (rda_pre (hOw44.rdx hO38.len hx46) _ rfl))) (fun γ47 => ds_ (sq_ (sq_ ?_)))
            rcases q49 : dn with _ | _
            ·
              by_cases q51 : (x46.id : Int) > ((i : Nat) : Int)
              ·
                refine qa [(4, .go (owns 0 0 1)), (6, .yes)] [4, 9, 10, 11, 12, 14, 47, 48, 49] [(60, .bool true)] ([(x46.id : Int) > ((i : Nat) : Int)]) (al1 q51) (ds_ (t_ (ao_ (mo0 4 [(1, .go (owns 1 0 1)), (2, .go (owns 2 0 2))] [4, 9, 10, 11, 14, 47, 48, 49] (fun γ53 => [(62, .slice po nu co), (64, .slice (some ⟨γ53 0, 0, none⟩) 1 1)]) (fun γ53 L => bx (γ53 0) (#[.int .i64 (i : Nat), .slice p34 (0 + n) cap34]) 46 :: L) (fun γ53 => ops_append (α := GngA) [bx (γ53 0) (#[.int .i64 (i : Nat), .slice p34 (0 + n) cap34]) 46, bx (γ47 0) (#[.int .i64 x46.id, .slice x46.p x46.n x46.cap]) 46, bx (γ32 0) (#[.slice po nu co]) 38, bx (γ35 0) (#[.int .i64 (i : Nat), .slice p34 (0 + n) cap34]) 46, bx (γ1 1) (#[.slice none 0 0]) 38, bx g44 cs44 46] Yo (Yz38 ++ (Y34 ++ [])) (.refl _) rfl (by kernel_rfl) (by kernel_rfl) (p := po) (n := nu) (cap := co) (m := 1) (yv := .slice (some ⟨γ53 0, 0, none⟩) 1 1) (by kernel_rfl) (by kernel_rfl) (T := 46) (by_ := 32) (by kernel_rfl) (outT bl38 (⟨(i : Nat), p34, (0 + n), cap34, ([] ++ l)⟩ : GngA) j) ([(⟨(i : Nat), p34, (0 + n), cap34, ([] ++ l)⟩ : GngA)]) hO (fun w hw => src_svn Try.underlying36 (sv_row (hw.row 0 rfl) (by rfl)) (by rfl)) (by rfl) (by have hmx : maxLen = 9223372036854775807 := rfl; omega) (by have hmx : maxLen = 9223372036854775807 := rfl; omega) (fun Y54 p54 cap54 hO54 => mo0 3 [(6, .go (owns 2 0 1))] [4, 9, 10, 11, 14, 47, 48, 49] (fun _ => [(12, .bool true)]) (fun _ L => (L.set 2 (bx (γ32 0) (#[.slice p54 (nu + 1) cap54]) 38))) (fun _ => on_ (ds_ (ao_ (mo0 4 [(1, .go (owns 2 0 1)), (2, .go (owns 1 0 2))] [4, 9, 10, 11, 12, 47, 48, 49] (fun γ56 => [(68, .slice p54 (nu + 1) cap54), (70, .slice (some ⟨γ56 0, 0, none⟩) 1 1)]) (fun γ56 L => bx (γ56 0) (#[.int .i64 x46.id, .slice x46.p x46.n x46.cap]) 46 :: L) (fun γ56 => ops_append (α := GngA) [bx (γ56 0) (#[.int .i64 x46.id, .slice x46.p x46.n x46.cap]) 46, bx (γ53 0) (#[.int .i64 (i : Nat), .slice p34 (0 + n) cap34]) 46, bx (γ47 0) (#[.int .i64 x46.id, .slice x46.p x46.n x46.cap]) 46, bx (γ32 0) (#[.slice p54 (nu + 1) cap54]) 38, bx (γ35 0) (#[.int .i64 (i : Nat), .slice p34 (0 + n) cap34]) 46, bx (γ1 1) (#[.slice none 0 0]) 38, bx g44 cs44 46] Y54 (Yz38 ++ (Y34 ++ [])) (.refl _) rfl (by kernel_rfl) (by kernel_rfl) (p := p54) (n := (nu + 1)) (cap := cap54) (m := 1) (yv := .slice (some ⟨γ56 0, 0, none⟩) 1 1) (by kernel_rfl) (by kernel_rfl) (T := 46) (by_ := 32) (by kernel_rfl) ((outT bl38 (⟨(i : Nat), p34, (0 + n), cap34, ([] ++ l)⟩ : GngA) j) ++ [(⟨(i : Nat), p34, (0 + n), cap34, ([] ++ l)⟩ : GngA)]) ([(⟨x46.id, x46.p, x46.n, x46.cap, x46.l⟩ : GngA)]) hO54 (fun w hw => src_svn Try.underlying36 (sv_row (hw.row 0 rfl) (by rfl)) (by rfl)) (by rfl) (by have hmx : maxLen = 9223372036854775807 := rfl; omega) (by have hmx : maxLen = 9223372036854775807 := rfl; omega) (fun Y57 p57 cap57 hO57 => ?_))))))))))))
                refine mo0 2 [(6, .go (owns 3 0 1))] [4, 9, 10, 11, 12, 47, 48, 49] (fun _ => []) (fun _ L => (L.set 3 (bx (γ32 0) (#[.slice p57 ((nu + 1) + 1) cap57]) 38))) (fun _ => on_ (done_block (ds_ (qa [(0, .fit)] [4, 9, 10, 11, 12, 47, 48] [(49, .int .i64 (j + 1 : Nat))] ([Fit .i64 ((j + 1 : Nat))]) (al1 (fit64 (by omega) (by omega))) (Done.pick [[bx (γ56 0) (#[.int .i64 x46.id, .slice x46.p x46.n x46.cap]) 46], [bx (γ53 0) (#[.int .i64 (i : Nat), .slice p34 (0 + n) cap34]) 46], [bx (γ47 0) (#[.int .i64 x46.id, .slice x46.p x46.n x46.cap]) 46], [bx (γ32 0) (#[.slice p57 ((nu + 1) + 1) cap57]) 38], [bx (γ35 0) (#[.int .i64 (i : Nat), .slice p34 (0 + n) cap34]) 46], [bx (γ1 1) (#[.slice none 0 0]) 38], [bx g44 cs44 46], Y57, Yz38, Y34] [3, 4, 5, 7, 6, 8, 9] [0, 1, 2] (bx (γ32 0) (#[.slice p57 ((nu + 1) + 1) cap57]) 38 :: bx (γ35 0) (#[.int .i64 (i : Nat), .slice p34 (0 + n) cap34]) 46 :: bx (γ1 1) (#[.slice none 0 0]) 38 :: (Y57 ++ ([bx g44 cs44 46] ++ (Yz38 ++ (Y34 ++ []))))) (by kernel_rfl) rfl rfl ?_)))))
                have hoa := out_at hgb hx46
                have hoj := hoa.1 (by omega)
                have hoi := of_decide_eq_false (hdn.symm.trans q49)
                exact dr [4, 9, 10, 11, 12, 47, 48, 49] (j + 1, true, Y57, p57, ((nu + 1) + 1), cap57) ⟨by omega, by omega, (decide_eq_true (by show gapA bl38 < j + 1; omega)).symm, SlO.as14 hO57 (out_mid (y := (⟨(i : Nat), p34, (0 + n), cap34, ([] ++ l)⟩ : GngA)) hx46 (by omega)).symm⟩
              ·
                refine qa [(4, .go (owns 0 0 1)), (6, .no)] [4, 9, 10, 11, 12, 14, 47, 48, 49] [(60, .bool false)] ([¬ ((x46.id : Int) > ((i : Nat) : Int))]) (al1 q51) (ds_ (f_ (at_skip (ds_ (ao_ (mo0 4 [(1, .go (owns 1 0 1)), (2, .go (owns 0 0 2))] [4, 9, 10, 11, 12, 47, 48, 49] (fun γ61 => [(68, .slice po nu co), (70, .slice (some ⟨γ61 0, 0, none⟩) 1 1)]) (fun γ61 L => bx (γ61 0) (#[.int .i64 x46.id, .slice x46.p x46.n x46.cap]) 46 :: L) (fun γ61 => ops_append (α := GngA) [bx (γ61 0) (#[.int .i64 x46.id, .slice x46.p x46.n x46.cap]) 46, bx (γ47 0) (#[.int .i64 x46.id, .slice x46.p x46.n x46.cap]) 46, bx (γ32 0) (#[.slice po nu co]) 38, bx (γ35 0) (#[.int .i64 (i : Nat), .slice p34 (0 + n) cap34]) 46, bx (γ1 1) (#[.slice none 0 0]) 38, bx g44 cs44 46] Yo (Yz38 ++ (Y34 ++ [])) (.refl _) rfl (by kernel_rfl) (by kernel_rfl) (p := po) (n := nu) (cap := co) (m := 1) (yv := .slice (some ⟨γ61 0, 0, none⟩) 1 1) (by kernel_rfl) (by kernel_rfl) (T := 46) (by_ := 32) (by kernel_rfl) (outT bl38 (⟨(i : Nat), p34, (0 + n), cap34, ([] ++ l)⟩ : GngA) j) ([(⟨x46.id, x46.p, x46.n, x46.cap, x46.l⟩ : GngA)]) hO (fun w hw => src_svn Try.underlying36 (sv_row (hw.row 0 rfl) (by rfl)) (by rfl)) (by rfl) (by have hmx : maxLen = 9223372036854775807 := rfl; omega) (by have hmx : maxLen = 9223372036854775807 := rfl; omega) (fun Y62 p62 cap62 hO62 => mo0 2 [(6, .go (owns 2 0 1))] [4, 9, 10, 11, 12, 47, 48, 49] (fun _ => []) (fun _ L => (L.set 2 (bx (γ32 0) (#[.slice p62 (nu + 1) cap62]) 38))) (fun _ => on_ (done_block (ds_ (qa [(0, .fit)] [4, 9, 10, 11, 12, 47, 48] [(49, .int .i64 (j + 1 : Nat))] ([Fit .i64 ((j + 1 : Nat))]) (al1 (fit64 (by omega) (by omega))) (Done.pick [[bx (γ61 0) (#[.int .i64 x46.id, .slice x46.p x46.n x46.cap]) 46], [bx (γ47 0) (#[.int .i64 x46.id, .slice x46.p x46.n x46.cap]) 46], [bx (γ32 0) (#[.slice p62 (nu + 1) cap62]) 38], [bx (γ35 0) (#[.int .i64 (i : Nat), .slice p34 (0 + n) cap34]) 46], [bx (γ1 1) (#[.slice none 0 0]) 38], [bx g44 cs44 46], Y62, Yz38, Y34] [2, 3, 4, 6, 5, 7, 8] [0, 1] (bx (γ32 0) (#[.slice p62 (nu + 1) cap62]) 38 :: bx (γ35 0) (#[.int .i64 (i : Nat), .slice p34 (0 + n) cap34]) 46 :: bx (γ1 1) (#[.slice none 0 0]) 38 :: (Y62 ++ ([bx g44 cs44 46] ++ (Yz38 ++ (Y34 ++ []))))) (by kernel_rfl) rfl rfl ?_)))))))))))))
                have hoa := out_at hgb hx46
                have hoj : ¬ gapA bl38 ≤ j := fun h => by have := hoa.2 h; omega
                exact dr [4, 9, 10, 11, 12, 47, 48, 49] (j + 1, false, Y62, p62, (nu + 1), cap62) ⟨by omega, by omega, (decide_eq_false (by show ¬ gapA bl38 < j + 1; omega)).symm, SlO.as14 hO62 (out_low (y := (⟨(i : Nat), p34, (0 + n), cap34, ([] ++ l)⟩ : GngA)) hx46 (by omega)).symm⟩
            ·
              refine qa0 [] [4, 9, 10, 11, 12, 14, 47, 48, 49] [(60, .bool false)] (ds_ (f_ (at_skip (ds_ (ao_ (mo0 4 [(1, .go (owns 1 0 1)), (2, .go (owns 0 0 2))] [4, 9, 10, 11, 12, 47, 48, 49] (fun γ66 => [(68, .slice po nu co), (70, .slice (some ⟨γ66 0, 0, none⟩) 1 1)]) (fun γ66 L => bx (γ66 0) (#[.int .i64 x46.id, .slice x46.p x46.n x46.cap]) 46 :: L) (fun γ66 => ops_append (α := GngA) [bx (γ66 0) (#[.int .i64 x46.id, .slice x46.p x46.n x46.cap]) 46, bx (γ47 0) (#[.int .i64 x46.id, .slice x46.p x46.n x46.cap]) 46, bx (γ32 0) (#[.slice po nu co]) 38, bx (γ35 0) (#[.int .i64 (i : Nat), .slice p34 (0 + n) cap34]) 46, bx (γ1 1) (#[.slice none 0 0]) 38, bx g44 cs44 46] Yo (Yz38 ++ (Y34 ++ [])) (.refl _) rfl (by kernel_rfl) (by kernel_rfl) (p := po) (n := nu) (cap := co) (m := 1) (yv := .slice (some ⟨γ66 0, 0, none⟩) 1 1) (by kernel_rfl) (by kernel_rfl) (T := 46) (by_ := 32) (by kernel_rfl) (outT bl38 (⟨(i : Nat), p34, (0 + n), cap34, ([] ++ l)⟩ : GngA) j) ([(⟨x46.id, x46.p, x46.n, x46.cap, x46.l⟩ : GngA)]) hO (fun w hw => src_svn Try.underlying36 (sv_row (hw.row 0 rfl) (by rfl)) (by rfl)) (by rfl) (by have hmx : maxLen = 9223372036854775807 := rfl; omega) (by have hmx : maxLen = 9223372036854775807 := rfl; omega) (fun Y67 p67 cap67 hO67 => mo0 2 [(6, .go (owns 2 0 1))] [4, 9, 10, 11, 12, 47, 48, 49] (fun _ => []) (fun _ L => (L.set 2 (bx (γ32 0) (#[.slice p67 (nu + 1) cap67]) 38))) (fun _ => on_ (done_block (ds_ (qa [(0, .fit)] [4, 9, 10, 11, 12, 47, 48] [(49, .int .i64 (j + 1 : Nat))] ([Fit .i64 ((j + 1 : Nat))]) (al1 (fit64 (by omega) (by omega))) (Done.pick [[bx (γ66 0) (#[.int .i64 x46.id, .slice x46.p x46.n x46.cap]) 46], [bx (γ47 0) (#[.int .i64 x46.id, .slice x46.p x46.n x46.cap]) 46], [bx (γ32 0) (#[.slice p67 (nu + 1) cap67]) 38], [bx (γ35 0) (#[.int .i64 (i : Nat), .slice p34 (0 + n) cap34]) 46], [bx (γ1 1) (#[.slice none 0 0]) 38], [bx g44 cs44 46], Y67, Yz38, Y34] [2, 3, 4, 6, 5, 7, 8] [0, 1] (bx (γ32 0) (#[.slice p67 (nu + 1) cap67]) 38 :: bx (γ35 0) (#[.int .i64 (i : Nat), .slice p34 (0 + n) cap34]) 46 :: bx (γ1 1) (#[.slice none 0 0]) 38 :: (Y67 ++ ([bx g44 cs44 46] ++ (Yz38 ++ (Y34 ++ []))))) (by kernel_rfl) rfl rfl ?_)))))))))))))
              have hoa := out_at hgb hx46
              exact dr [4, 9, 10, 11, 12, 47, 48, 49] (j + 1, true, Y67, p67, (nu + 1), cap67) ⟨by omega, by omega, (decide_eq_true (by have := of_decide_eq_true (hdn.symm.trans q49); show gapA bl38 < j + 1; omega)).symm, SlO.as14 hO67 (out_high (y := (⟨(i : Nat), p34, (0 + n), cap34, ([] ++ l)⟩ : GngA)) hx46 (of_decide_eq_true (hdn.symm.trans q49))).symm⟩
          ·
            refine qa [(0, .no)] [4, 9, 10, 11, 12, 47, 48, 49] [(50, .bool false)] ([¬ (((j : Nat) : Int) < ((n38 : Nat) : Int))]) (al1 q41) (ds_ (sq_ (f_ (at_leave _ rfl (ds_ (sq_ (sq_ ?_)))))))
            rcases q72 : dn with _ | _
            ·
              refine qa0 [] [4, 9, 10, 11] [(75, .bool true)] (ds_ (t_ (ao_ (mo0 4 [(1, .go (owns 0 0 1)), (2, .go (owns 1 0 2))] [4, 9, 10] (fun γ74 => [(77, .slice po nu co), (79, .slice (some ⟨γ74 0, 0, none⟩) 1 1)]) (fun γ74 L => bx (γ74 0) (#[.int .i64 (i : Nat), .slice p34 (0 + n) cap34]) 46 :: L) (fun γ74 => ops_append (α := GngA) [bx (γ74 0) (#[.int .i64 (i : Nat), .slice p34 (0 + n) cap34]) 46, bx (γ32 0) (#[.slice po nu co]) 38, bx (γ35 0) (#[.int .i64 (i : Nat), .slice p34 (0 + n) cap34]) 46, bx (γ1 1) (#[.slice none 0 0]) 38] Yo (Y38 ++ (Yz38 ++ (Y34 ++ []))) (.refl _) rfl (by kernel_rfl) (by kernel_rfl) (p := po) (n := nu) (cap := co) (m := 1) (yv := .slice (some ⟨γ74 0, 0, none⟩) 1 1) (by kernel_rfl) (by kernel_rfl) (T := 46) (by_ := 32) (by kernel_rfl) (outT bl38 (⟨(i : Nat), p34, (0 + n), cap34, ([] ++ l)⟩ : GngA) j) ([(⟨(i : Nat), p34, (0 + n), cap34, ([] ++ l)⟩ : GngA)]) hO (fun w hw => src_svn Try.underlying36 (sv_row (hw.row 0 rfl) (by rfl)) (by rfl)) (by rfl) (by have hmx : maxLen = 9223372036854775807 := rfl; omega) (by have hmx : maxLen = 9223372036854775807 := rfl; omega) (fun Y75 p75 cap75 hO75 => mo0 2 [(6, .go (owns 1 0 1))] [4, 9, 10] (fun _ => []) (fun _ L => (L.set 1 (bx (γ32 0) (#[.slice p75 (nu + 1) cap75]) 38))) (fun _ => on_ (ds_ (sq_ (ma0 [(0, .go (owns 1 0 1)), (2, .go (owns 3 0 1))] [4] (fun _ => [(5, .int .i64 (i : Nat)), (6, .int .i64 0)]) (fun _ L => (L.set 3 (bx (γ1 1) (#[.slice p75 (nu + 1) cap75]) 38))) (fun _ => ds_ (rt (owns 3 0 1) (.tuple #[.agg #[.slice p75 (nu + 1) cap75], .int .i64 (i : Nat), .int .i64 0]) ?_))))))))))))
              obtain ⟨Yq, hpq, hGq⟩ := GotG.ins (x := (⟨(i : Nat), p34, (0 + n), cap34, ([] ++ l)⟩ : GngA)) hG38 hO34 (gapA_le (al := bl38))
              exact fun w' hw => ⟨_, _, _, _, _, Yq, _, _, rfl, rf_fin hgd q3 ha hgi (by omega) hB38 rfl, SlO.as14 hO75 (out_end0 (y := (⟨(i : Nat), p34, (0 + n), cap34, ([] ++ l)⟩ : GngA)) (by omega) (of_decide_eq_false (hdn.symm.trans q72))), hGq, hw.below, ins_hs hpq (Hs.pick [[bx (γ74 0) (#[.int .i64 (i : Nat), .slice p34 (0 + n) cap34]) 46], [bx (γ32 0) (#[.slice p75 (nu + 1) cap75]) 38], [bx (γ35 0) (#[.int .i64 (i : Nat), .slice p34 (0 + n) cap34]) 46], [bx (γ1 1) (#[.slice p75 (nu + 1) cap75]) 38], Y75, Y38, Yz38, Y34] [4, 6, 7] [0, 1, 2, 3, 5] (by kernel_rfl) hw)⟩
            ·
              refine qa0 [] [4, 9, 10, 11] [(75, .bool false)] (ds_ (f_ (at_skip (ds_ (sq_ (ma0 [(0, .go (owns 0 0 1)), (2, .go (owns 2 0 1))] [4] (fun _ => [(5, .int .i64 (i : Nat)), (6, .int .i64 0)]) (fun _ L => (L.set 2 (bx (γ1 1) (#[.slice po nu co]) 38))) (fun _ => ds_ (rt (owns 2 0 1) (.tuple #[.agg #[.slice po nu co], .int .i64 (i : Nat), .int .i64 0]) ?_))))))))
              obtain ⟨Yq, hpq, hGq⟩ := GotG.ins (x := (⟨(i : Nat), p34, (0 + n), cap34, ([] ++ l)⟩ : GngA)) hG38 hO34 (gapA_le (al := bl38))
              exact fun w' hw => ⟨_, _, _, _, _, Yq, _, _, rfl, rf_fin hgd q3 ha hgi (by omega) hB38 rfl, SlO.as14 hO (out_end (y := (⟨(i : Nat), p34, (0 + n), cap34, ([] ++ l)⟩ : GngA)) (by omega) (of_decide_eq_true (hdn.symm.trans q72))), hGq, hw.below, ins_hs hpq (Hs.pick [[bx (γ32 0) (#[.slice po nu co]) 38], [bx (γ35 0) (#[.int .i64 (i : Nat), .slice p34 (0 + n) cap34]) 46], [bx (γ1 1) (#[.slice po nu co]) 38], Yo, Y38, Yz38, Y34] [3, 5, 6] [0, 1, 2, 4] (by kernel_rfl) hw)⟩
      ·
        have h2m := (may_len ((gang_iff14.1 hgd).2.2.1 x0.val (List.mem_map_of_mem (List.mem_of_getElem? hx0)))).1
        have hlx : 2 ≤ x0.l.length := h2m
        have hsx0 := (hnm x0 (List.mem_of_getElem? hx0)).sv
        have hnx0 : x0.n = x0.l.length := (hnm x0 (List.mem_of_getElem? hx0)).hn
        obtain ⟨b9, o9, hp9⟩ := Sv.pos (i := 0) hsx0 (by show 0 < x0.l.length; omega)
        replace hp9 : x0.p = some ⟨b9, o9, none⟩ := hp9
        refine cD (.slice (some ⟨b9, o9, none⟩) x0.n x0.cap) Try.call23 (fun w hw => by have := rget_t q m capq al (i : Nat) w (hal.kept hw.below) hma hbm (fun x hx => (hnm x hx).kept hw.below) hm9; rw [hge, hp9] at this; exact this) (qo0 1 [] [1, 2, 4, 9] [(34, .bool true)] (on_ (ds_ (t_ (at_skip (ds_ (at_block (qa [(1, .fit)] [1, 2, 4] [(9, .int .i64 (i + 1 : Nat))] ([Fit .i64 ((i + 1 : Nat))]) (al1 (fit64 (by omega) (by omega))) (done_block ?_)))))))))
        exact dr [1, 2, 4, 9] (i + 1) ⟨by omega, rf_more hgd hig hx0 hk0⟩
end Go.Proofs.Ytahccegfahghfaa

/-! Gangs as an element; what short leaves; plain. -/
namespace Go.Proofs.Ytahccegfahghfaa
open Go Go.RowKit
/-- Gangs, as an element. -/
structure GngsA where
  p : Option Addr
  n : Nat
  cap : Nat
  l : List GngA
def GngsA.enc (x : GngsA) : List Value := [.slice x.p x.n x.cap]
instance : Enc GngsA := ⟨GngsA.enc, 1, fun _ => rfl, fun x v h => by simp [GngsA.enc] at h; subst h; rfl, by decide⟩
structure GngsA.Reads (w : World) (x : GngsA) : Prop where
  sv : Sv w x.p x.l
  hn : x.n = x.l.length
  hc : x.n ≤ x.cap
  hb : x.cap ≤ 9223372036854775807
  hi : ∀ y ∈ x.l, y.Reads w
section
variable {T : TypeId} {Yi : List Ob} {bl bl2 al : List GngA} {gs : Gs} {rl : List IntsA} {x : GngA} {y : IntsA} {j : Nat} {w : World} {k : Int}
theorem short_facts (hG : GotG T Yi bl) (hB : bl.map GngA.val = shortV gs) : bl.length ≤ 9 ∧ ∀ x ∈ bl, x.n ≤ 1000 := by
  have h1 : (shortV gs).length ≤ 9 := by unfold shortV; rw [List.length_map, List.length_take]; omega
  refine ⟨by rw [← List.length_map (f := GngA.val), hB]; exact h1, fun x hx => ?_⟩
  obtain ⟨Z, _, hz⟩ := GotR.own hG (List.mem_map_of_mem (f := GngA.row) hx)
  have h2 : x.val ∈ shortV gs := by rw [← hB]; exact List.mem_map_of_mem hx
  unfold shortV at h2
  obtain ⟨r, _, hr⟩ := List.mem_map.1 h2
  have h3 : x.l.length ≤ 17 := by
    have : x.l = r.2.take 17 := (congrArg Prod.snd hr).symm
    rw [this, List.length_take]; omega
  have h4 : x.row.n = x.row.l.length := hz.facts.1
  have h5 : x.n = x.l.length := h4
  omega
end
end Go.Proofs.Ytahccegfahghfaa

/-! What is done to gangs, as elements; plain. -/
namespace Go.Proofs.Ytahccegfahghfaa
open Go Go.RowKit
/-- An op. -/
structure OpG where
  kind : Int
  a : Int
  p : Option Addr
  n : Nat
  cap : Nat
  l : List Int
def OpG.enc (x : OpG) : List Value := [.int .i64 x.kind, .int .i64 x.a, .slice x.p x.n x.cap]
instance : Enc OpG := ⟨OpG.enc, 3, fun _ => rfl, fun x v h => by simp [OpG.enc] at h; rcases h with rfl | rfl | rfl <;> rfl, by decide⟩
def OpG.row (x : OpG) : IntsA := ⟨x.p, x.n, x.cap, x.l⟩
def OpG.Reads (w : World) (x : OpG) : Prop := x.row.Reads w
/-- The rest by six. -/
def kd6 (k : Int) : Int := Int.tmod (IntKind.u64.wrap k) 6
/-- What the layer makes of it: gangs, a number, the error. -/
def runG (gs : Gs) (o : OpG) : Gs × Int × Int :=
  if kd6 o.kind = 0 ∨ kd6 o.kind = 1 ∨ kd6 o.kind = 2 then formV gs (o.l.take 17)
  else if kd6 o.kind = 3 then ((movG gs (partC gs o.a)).1, 0, (movG gs (partC gs o.a)).2)
  else ((movG gs (leaveC gs o.a)).1, 0, (movG gs (leaveC gs o.a)).2)
section
variable {gs hs : Gs} {o : OpG} {idn k er : Int}
theorem run_form (h : kd6 o.kind = 0 ∨ kd6 o.kind = 1 ∨ kd6 o.kind = 2) : runG gs o = formV gs (o.l.take 17) := if_pos h
theorem run_part (h : kd6 o.kind = 3) : runG gs o = ((movG gs (partC gs o.a)).1, 0, (movG gs (partC gs o.a)).2) := by rw [runG, if_neg (by omega), if_pos h]
theorem run_leave (h : ¬ (kd6 o.kind = 0 ∨ kd6 o.kind = 1 ∨ kd6 o.kind = 2)) (h3 : ¬ kd6 o.kind = 3) : runG gs o = ((movG gs (leaveC gs o.a)).1, 0, (movG gs (leaveC gs o.a)).2) := by rw [runG, if_neg h, if_neg h3]
theorem run_gang (h : (runG gs o).2.2 = 0) : gangB (runG gs o).1 = true := by
  unfold runG at h ⊢
  split
  · rename_i e
    rw [if_pos e] at h
    exact form_gang (idn := (formV gs (o.l.take 17)).2.1) (gs := gs) (l := o.l.take 17) (by rw [← h])
  · rename_i e
    rw [if_neg e] at h
    split
    · rename_i e3
      rw [if_pos e3] at h
      exact (mov_gang (C := partC) (k := o.a) (fun _ _ hg => part_gang hg) (gs := gs) (by rw [← h])).1
    · rename_i e3
      rw [if_neg e3] at h
      exact (mov_gang (C := leaveC) (k := o.a) (fun _ _ hg => leave_gang hg) (gs := gs) (by rw [← h])).1
/-- An error leaves nothing. -/
theorem mov_bad {r : Gs × Int} (h : ¬ (movG gs r).2 = 0) : (movG gs r).1 = [] := by
  unfold movG at h ⊢
  split
  · rfl
  · rename_i e
    rw [if_neg e] at h
    split
    · rename_i e2; rw [if_pos e2] at h; exact absurd e2 h
    · rfl
theorem gang_small (hg : gangB gs = true) : gs.length ≤ 9 ∧ ∀ g ∈ gs, g.2.length ≤ 17 := by
  obtain ⟨al, rfl⟩ := as_gng gs
  have h8 := gang_len8 hg
  exact ⟨by rw [List.length_map]; omega, fun g hgm => by have := may_len ((gang_iff14.1 hg).2.2.1 g hgm); omega⟩
theorem short_same (h : gs.length ≤ 9 ∧ ∀ g ∈ gs, g.2.length ≤ 17) : shortV gs = gs := by
  unfold shortV
  rw [List.take_of_length_le h.1]
  conv => rhs; rw [← List.map_id gs]
  exact List.map_congr_left fun g hg => by rw [List.take_of_length_le (h.2 g hg)]; rfl
theorem short_small : (shortV gs).length ≤ 9 ∧ ∀ g ∈ shortV gs, g.2.length ≤ 17 := by
  unfold shortV
  refine ⟨by rw [List.length_map, List.length_take]; omega, fun g hg => ?_⟩
  obtain ⟨r, _, rfl⟩ := List.mem_map.1 hg
  show (r.2.take 17).length ≤ 17
  rw [List.length_take]; omega
end
end Go.Proofs.Ytahccegfahghfaa

/-! Gangs: an op, with the layer and by the document. -/
namespace Go.Proofs.Ytahccegfahghfaa
open Go Go.RowKit
theorem run_bad {gs : Gs} {o : OpG} (h : gangB gs = false) : runG gs o = ([], 0, 240) := by
  unfold runG formV movG
  rw [if_pos h, if_pos h, if_pos h]
  split
  · rfl
  · split <;> rfl

set_option maxRecDepth 100000 in
theorem run_t14 (o : OpG) (q : Option Addr) (m capq : Nat) (al : List GngA) (w : World)
    (hal : Sv w q al) (hma : m = al.length) (hbm : m ≤ 1000) (hnm : ∀ x ∈ al, x.Reads w) (hm9 : ∀ x ∈ al, x.n ≤ 1000)
    (hso : Sv w o.p o.l) (hno : o.n = o.l.length) (hco : o.n ≤ o.cap) (hbo : o.cap ≤ 9223372036854775807)
    : Calls Try.prog 26 #[.agg #[.int .i64 o.kind, .int .i64 o.a, .slice o.p o.n o.cap], .agg #[.slice q m capq]] w fun e w' => ∃ q' n' c' Y Yi bl, e = .returned (.tuple #[.agg #[.slice q' n' c'], .int .i64 (runG (al.map GngA.val) o).2.1, .int .i64 (runG (al.map GngA.val) o).2.2]) ∧ bl.map GngA.val = (runG (al.map GngA.val) o).1 ∧ SlO 46 Y q' n' c' bl ∧ GotG 3 Yi bl ∧ Below w.heap.size w w' ∧ Hs w (Y ++ Yi) w' := by
  refine enter (Hs.start w) Try.func26 rfl Try.ntmps26 rfl (sq_ (ma0 [] [] (fun γ1 => [(2, .pointer (some ⟨γ1 0, 0, none⟩)), (3, .pointer (some ⟨γ1 1, 0, none⟩)), (4, .pointer (some ⟨γ1 2, 0, none⟩)), (5, .int .i64 0)]) (fun γ1 L => bx (γ1 2) (#[.slice none 0 0]) 38 :: bx (γ1 1) (#[.slice q m capq]) 38 :: bx (γ1 0) (#[.int .i64 o.kind, .int .i64 o.a, .slice o.p o.n o.cap]) 54 :: L) (fun γ1 => ds_ (sq_ (sq_ (qa0 [(1, .go (owns 2 0 1))] [2, 3, 4, 5] [(12, .int .u64 (kd6 o.kind))] (ds_ (at_block (sq_ (sq_ ?_))))))))))
  by_cases q4 : (kd6 o.kind : Int) = (0 : Int)
  ·
    refine qa [(0, .yes)] [2, 3, 4, 5, 12] [(20, .bool true)] ([(kd6 o.kind : Int) = (0 : Int)]) (al1 q4) (ds_ (t_ (at_skip (ds_ (t_ (sq_ (ao_ (qo0 2 [(1, .go (owns 2 2 1))] [3, 4] [(25, .slice o.p o.n o.cap)] (cP (fun v L' => ∃ q_ n_ c_ Y_, v = .slice q_ n_ c_ ∧ L' = List.take 3 ([bx (γ1 2) (#[.slice none 0 0]) 38, bx (γ1 1) (#[.slice q m capq]) 38, bx (γ1 0) (#[.int .i64 o.kind, .int .i64 o.a, .slice o.p o.n o.cap]) 54]) ++ (Y_ ++ List.drop 3 ([bx (γ1 2) (#[.slice none 0 0]) 38, bx (γ1 1) (#[.slice q m capq]) 38, bx (γ1 0) (#[.int .i64 o.kind, .int .i64 o.a, .slice o.p o.n o.cap]) 54])) ∧ SlO 3 Y_ q_ n_ c_ (o.l.take 17)) Try.call30 (fun w hw => (ints_t o.p o.n o.cap o.l w (hso.kept hw.below) hno (by omega) (by omega)).mono fun e w' ⟨q_, n_, c_, Y_, he, hO, hb, hY⟩ => ⟨_, _, he, ⟨q_, n_, c_, Y_, rfl, rfl, hO⟩, hw.join hb hY 3⟩) ?_)))))))))
    rintro v7 L7 ⟨q7, n7, c7, Y7, rfl, rfl, hO7⟩
    refine qo0 1 [] [3, 4] [(7, .slice q7 n7 c7)] (on_ (ds_ (sq_ (ao_ (qo0 2 [(0, .go (owns 1 0 1))] [4, 7] [(28, .agg #[.slice q m capq]), (29, .slice q7 n7 c7)] (cP (fun v L' => ∃ er q_ n_ c_ Y_ Z_ bl_ idn, v = .tuple #[.agg #[.slice q_ n_ c_], .int .i64 idn, .int .i64 er] ∧ L' = List.take 3 (bx (γ1 2) (#[.slice none 0 0]) 38 :: bx (γ1 1) (#[.slice q m capq]) 38 :: bx (γ1 0) (#[.int .i64 o.kind, .int .i64 o.a, .slice o.p o.n o.cap]) 54 :: (Y7 ++ [])) ++ (Y_ ++ (Z_ ++ List.drop 3 (bx (γ1 2) (#[.slice none 0 0]) 38 :: bx (γ1 1) (#[.slice q m capq]) 38 :: bx (γ1 0) (#[.int .i64 o.kind, .int .i64 o.a, .slice o.p o.n o.cap]) 54 :: (Y7 ++ [])))) ∧ SlO 46 Y_ q_ n_ c_ bl_ ∧ GotG 3 Z_ bl_ ∧ (bl_.map GngA.val, idn, er) = formV (al.map GngA.val) (o.l.take 17)) Try.call29 (fun w hw => (form_t q m capq al q7 n7 c7 (o.l.take 17) w (hal.kept hw.below) hma hbm (fun x hx => (hnm x hx).kept hw.below) hm9 (hO7.atN (A := [_, _, _]) hw) (by have := hO7.len; omega) (by have := hO7.len; rw [List.length_take] at this; omega)).mono fun e w' ⟨er, q_, n_, c_, Y_, Z_, bl_, idn, he, hv, hO, hG, hb, hY⟩ => ⟨_, _, he, ⟨er, q_, n_, c_, Y_, Z_, bl_, idn, rfl, rfl, hO, hG, hv⟩, hs_re (hw.join hb hY 3)⟩) ?_))))))
    rintro v10 L10 ⟨er10, q10, n10, c10, Y10, Yz10, bl10, id10, rfl, rfl, hO10, hG10, hV10⟩
    refine mo0 7 [(7, .go (owns 0 0 1))] [4, 7] (fun _ => [(5, .int .i64 id10), (6, .int .i64 er10)]) (fun _ L => (L.set 0 (bx (γ1 2) (#[.slice q10 n10 c10]) 38))) (fun _ => on_ (ds_ (sq_ ?_)))
    have hle9 : n7 ≤ 17 := by have := hO7.len; rw [List.length_take] at this; omega
    refine qa0 [] [4, 5, 6, 7] [(35, .int .i64 (n7 : Nat)), (36, .int .i64 0)] (ds_ (at_block (At.pick [[bx (γ1 2) (#[.slice q10 n10 c10]) 38], [bx (γ1 1) (#[.slice q m capq]) 38], [bx (γ1 0) (#[.int .i64 o.kind, .int .i64 o.a, .slice o.p o.n o.cap]) 54], Y10, Yz10, Y7] [0, 5, 3, 4] [1, 2] (bx (γ1 2) (#[.slice q10 n10 c10]) 38 :: (Y7 ++ (Y10 ++ (Yz10 ++ [])))) (by kernel_rfl) rfl rfl (at_loop (α := Nat × Option Addr × List Ob × List Int) [4, 5, 6, 7, 35, 36] (fun ⟨j, pl, Yl, ll⟩ => [(4, .pointer (some ⟨γ1 2, 0, none⟩)), (5, .int .i64 id10), (6, .int .i64 er10), (7, .slice pl n7 c7), (35, .int .i64 (n7 : Nat)), (36, .int .i64 (j : Nat))]) (fun ⟨j, pl, Yl, ll⟩ => bx (γ1 2) (#[.slice q10 n10 c10]) 38 :: (Yl ++ (Y10 ++ (Yz10 ++ [])))) (fun ⟨j, pl, Yl, ll⟩ => j ≤ n7 ∧ SlO 3 Yl pl n7 c7 ll) (fun ⟨j, pl, Yl, ll⟩ => n7 - j) (0, q7, Y7, (o.l.take 17)) (by kernel_rfl) rfl ⟨Nat.zero_le _, hO7⟩ ?_))))
    rintro ⟨j, pl, Yl, ll⟩
    rintro ⟨hj, hl⟩
    have hll := hl.len
    refine sq_ ?_
    by_cases q14 : ((j : Nat) : Int) < ((n7 : Nat) : Int)
    ·
      refine qa [(0, .yes)] [4, 5, 6, 7, 35, 36] [(37, .bool true)] ([((j : Nat) : Int) < ((n7 : Nat) : Int)]) (al1 q14) (ds_ (sq_ (t_ (at_skip (ds_ (sq_ (at_block (sq_ (qa0 [] [4, 5, 6, 7, 35, 36] [(8, .int .i64 (j : Nat))] (ds_ ?_))))))))))
      have hln18 := hl.len
      obtain ⟨g18, cs18, rfl, rfl, hOw18⟩ := hl.rowOf (i := j) (by omega)
      obtain ⟨x20, hx20⟩ := get_some (l := ll) (m := j) (by omega)
      refine ma [(2, .at g18 0 j), (3, .go (ownps 1 (0 + j * 1) [undef]))] [4, 5, 6, 7, 35, 36] (fun _ => []) (fun _ L => (L.set 1 (bx g18 ((cs18).setIfInBounds (0 + j * 1) (.int .i64 99)) 3))) (fun _ => [(some ⟨g18, 0, none⟩ : Option Addr) = some ⟨g18, 0, none⟩, (j : Nat) = ((j : Nat) : Int), j < n7] ++ ([0 + j * 1 < (cs18).size])) (fun _ => (alA (al2 rfl (al2 rfl (al1 (by omega)))) (al1 (hOw18.room hl.len hx20 (f := 0) (by decide))))) (fun _ => done_block (ds_ (qa [(0, .fit)] [4, 5, 6, 7, 35] [(36, .int .i64 (j + 1 : Nat))] ([Fit .i64 ((j + 1 : Nat))]) (al1 (fit64 (by omega) (by omega))) ?_)))
      exact dr [4, 5, 6, 7, 35, 36] (j + 1, (some ⟨g18, 0, none⟩), ([bx g18 ((cs18).setIfInBounds (0 + j * 1) (.int .i64 99)) 3]), (ll.set j 99)) ⟨by omega, (SlO.ofOwn (hOw18.put (x' := 99) hl.len hx20 (f := 0) (by decide) rfl) (len_set hl.len))⟩
    ·
      refine qa [(0, .no)] [4, 5, 6, 7, 35, 36] [(37, .bool false)] ([¬ (((j : Nat) : Int) < ((n7 : Nat) : Int))]) (al1 q14) (ds_ (sq_ (f_ (at_leave _ rfl (done_block (ds_ (sq_ (qa0 [(0, .go (owns 0 0 1)), (3, .go (owns 0 0 1))] [4] [(5, .int .i64 id10), (6, .int .i64 er10)] (ds_ (rt (owns 0 0 1) (.tuple #[.agg #[.slice q10 n10 c10], .int .i64 id10, .int .i64 er10]) ?_))))))))))
      have hrun : runG (al.map GngA.val) o = (bl10.map GngA.val, id10, er10) := (run_form (by omega)).trans hV10.symm
      exact fun w' hw => by rw [hrun]; exact ⟨_, _, _, _, _, _, rfl, rfl, hO10, hG10, hw.below, two_tails14 (Hs.pick [[bx (γ1 2) (#[.slice q10 n10 c10]) 38], Yl, Y10, Yz10] [2, 3] [0, 1] (by kernel_rfl) hw)⟩
  ·
    refine qa [(0, .no)] [2, 3, 4, 5, 12] [(20, .bool false)] ([¬ ((kd6 o.kind : Int) = (0 : Int))]) (al1 q4) (ds_ (f_ (sq_ ?_)))
    by_cases q27 : (kd6 o.kind : Int) = (1 : Int)
    ·
      refine qa [(0, .yes)] [2, 3, 4, 5, 12] [(20, .bool true)] ([(kd6 o.kind : Int) = (1 : Int)]) (al1 q27) (ds_ (t_ (at_skip (ds_ (t_ (sq_ (ao_ (qo0 2 [(1, .go (owns 2 2 1))] [3, 4] [(25, .slice o.p o.n o.cap)] (cP (fun v L' => ∃ q_ n_ c_ Y_, v = .slice q_ n_ c_ ∧ L' = List.take 3 ([bx (γ1 2) (#[.slice none 0 0]) 38, bx (γ1 1) (#[.slice q m capq]) 38, bx (γ1 0) (#[.int .i64 o.kind, .int .i64 o.a, .slice o.p o.n o.cap]) 54]) ++ (Y_ ++ List.drop 3 ([bx (γ1 2) (#[.slice none 0 0]) 38, bx (γ1 1) (#[.slice q m capq]) 38, bx (γ1 0) (#[.int .i64 o.kind, .int .i64 o.a, .slice o.p o.n o.cap]) 54])) ∧ SlO 3 Y_ q_ n_ c_ (o.l.take 17)) Try.call30 (fun w hw => (ints_t o.p o.n o.cap o.l w (hso.kept hw.below) hno (by omega) (by omega)).mono fun e w' ⟨q_, n_, c_, Y_, he, hO, hb, hY⟩ => ⟨_, _, he, ⟨q_, n_, c_, Y_, rfl, rfl, hO⟩, hw.join hb hY 3⟩) ?_)))))))))
      rintro v30 L30 ⟨q30, n30, c30, Y30, rfl, rfl, hO30⟩
      refine qo0 1 [] [3, 4] [(7, .slice q30 n30 c30)] (on_ (ds_ (sq_ (ao_ (qo0 2 [(0, .go (owns 1 0 1))] [4, 7] [(28, .agg #[.slice q m capq]), (29, .slice q30 n30 c30)] (cP (fun v L' => ∃ er q_ n_ c_ Y_ Z_ bl_ idn, v = .tuple #[.agg #[.slice q_ n_ c_], .int .i64 idn, .int .i64 er] ∧ L' = List.take 3 (bx (γ1 2) (#[.slice none 0 0]) 38 :: bx (γ1 1) (#[.slice q m capq]) 38 :: bx (γ1 0) (#[.int .i64 o.kind, .int .i64 o.a, .slice o.p o.n o.cap]) 54 :: (Y30 ++ [])) ++ (Y_ ++ (Z_ ++ List.drop 3 (bx (γ1 2) (#[.slice none 0 0]) 38 :: bx (γ1 1) (#[.slice q m capq]) 38 :: bx (γ1 0) (#[.int .i64 o.kind, .int .i64 o.a, .slice o.p o.n o.cap]) 54 :: (Y30 ++ [])))) ∧ SlO 46 Y_ q_ n_ c_ bl_ ∧ GotG 3 Z_ bl_ ∧ (bl_.map GngA.val, idn, er) = formV (al.map GngA.val) (o.l.take 17)) Try.call29 (fun w hw => (form_t q m capq al q30 n30 c30 (o.l.take 17) w (hal.kept hw.below) hma hbm (fun x hx => (hnm x hx).kept hw.below) hm9 (hO30.atN (A := [_, _, _]) hw) (by have := hO30.len; omega) (by have := hO30.len; rw [List.length_take] at this; omega)).mono fun e w' ⟨er, q_, n_, c_, Y_, Z_, bl_, idn, he, hv, hO, hG, hb, hY⟩ => ⟨_, _, he, ⟨er, q_, n_, c_, Y_, Z_, bl_, idn, rfl, rfl, hO, hG, hv⟩, hs_re (hw.join hb hY 3)⟩) ?_))))))
      rintro v33 L33 ⟨er33, q33, n33, c33, Y33, Yz33, bl33, id33, rfl, rfl, hO33, hG33, hV33⟩
      refine mo0 7 [(7, .go (owns 0 0 1))] [4, 7] (fun _ => [(5, .int .i64 id33), (6, .int .i64 er33)]) (fun _ L => (L.set 0 (bx (γ1 2) (#[.slice q33 n33 c33]) 38))) (fun _ => on_ (ds_ (sq_ ?_)))
      have hle9 : n30 ≤ 17 := by have := hO30.len; rw [List.length_take] at this; omega
      refine qa0 [] [4, 5, 6, 7] [(35, .int .i64 (n30 : Nat)), (36, .int .i64 0)] (ds_ (at_block (At.pick [[bx (γ1 2) (#[.slice q33 n33 c33]) 38], [bx (γ1 1) (#[.slice q m capq]) 38], [bx (γ1 0) (#[.int .i64 o.kind, .int .i64 o.a, .slice o.p o.n o.cap]) 54], Y33, Yz33, Y30] [0, 5, 3, 4] [1, 2] (bx (γ1 2) (#[.slice q33 n33 c33]) 38 :: (Y30 ++ (Y33 ++ (Yz33 ++ [])))) (by kernel_rfl) rfl rfl (at_loop (α := Nat × Option Addr × List Ob × List Int) [4, 5, 6, 7, 35, 36] (fun ⟨j, pl, Yl, ll⟩ => [(4, .pointer (some ⟨γ1 2, 0, none⟩)), (5, .int .i64 id33), (6, .int .i64 er33), (7, .slice pl n30 c30), (35, .int .i64 (n30 : Nat)), (36, .int .i64 (j : Nat))]) (fun ⟨j, pl, Yl, ll⟩ => bx (γ1 2) (#[.slice q33 n33 c33]) 38 :: (Yl ++ (Y33 ++ (Yz33 ++ [])))) (fun ⟨j, pl, Yl, ll⟩ => j ≤ n30 ∧ SlO 3 Yl pl n30 c30 ll) (fun ⟨j, pl, Yl, ll⟩ => n30 - j) (0, q30, Y30, (o.l.take 17)) (by kernel_rfl) rfl ⟨Nat.zero_le _, hO30⟩ ?_))))
      rintro ⟨j, pl, Yl, ll⟩
      rintro ⟨hj, hl⟩
      have hll := hl.len
      refine sq_ ?_
      by_cases q37 : ((j : Nat) : Int) < ((n30 : Nat) : Int)
      ·
        refine qa [(0, .yes)] [4, 5, 6, 7, 35, 36] [(37, .bool true)] ([((j : Nat) : Int) < ((n30 : Nat) : Int)]) (al1 q37) (ds_ (sq_ (t_ (at_skip (ds_ (sq_ (at_block (sq_ (qa0 [] [4, 5, 6, 7, 35, 36] [(8, .int .i64 (j : Nat))] (ds_ ?_))))))))))
        have hln41 := hl.len
        obtain ⟨g41, cs41, rfl, rfl, hOw41⟩ := hl.rowOf (i := j) (by omega)
        obtain ⟨x43, hx43⟩ := get_some (l := ll) (m := j) (by omega)
        refine ma [(2, .at g41 0 j), (3, .go (ownps 1 (0 + j * 1) [undef]))] [4, 5, 6, 7, 35, 36] (fun _ => []) (fun _ L => (L.set 1 (bx g41 ((cs41).setIfInBounds (0 + j * 1) (.int .i64 99)) 3))) (fun _ => [(some ⟨g41, 0, none⟩ : Option Addr) = some ⟨g41, 0, none⟩, (j : Nat) = ((j : Nat) : Int), j < n30] ++ ([0 + j * 1 < (cs41).size])) (fun _ => (alA (al2 rfl (al2 rfl (al1 (by omega)))) (al1 (hOw41.room hl.len hx43 (f := 0) (by decide))))) (fun _ => done_block (ds_ (qa [(0, .fit)] [4, 5, 6, 7, 35] [(36, .int .i64 (j + 1 : Nat))] ([Fit .i64 ((j + 1 : Nat))]) (al1 (fit64 (by omega) (by omega))) ?_)))
        exact dr [4, 5, 6, 7, 35, 36] (j + 1, (some ⟨g41, 0, none⟩), ([bx g41 ((cs41).setIfInBounds (0 + j * 1) (.int .i64 99)) 3]), (ll.set j 99)) ⟨by omega, (SlO.ofOwn (hOw41.put (x' := 99) hl.len hx43 (f := 0) (by decide) rfl) (len_set hl.len))⟩
      ·
        refine qa [(0, .no)] [4, 5, 6, 7, 35, 36] [(37, .bool false)] ([¬ (((j : Nat) : Int) < ((n30 : Nat) : Int))]) (al1 q37) (ds_ (sq_ (f_ (at_leave _ rfl (done_block (ds_ (sq_ (qa0 [(0, .go (owns 0 0 1)), (3, .go (owns 0 0 1))] [4] [(5, .int .i64 id33), (6, .int .i64 er33)] (ds_ (rt (owns 0 0 1) (.tuple #[.agg #[.slice q33 n33 c33], .int .i64 id33, .int .i64 er33]) ?_))))))))))
        have hrun : runG (al.map GngA.val) o = (bl33.map GngA.val, id33, er33) := (run_form (by omega)).trans hV33.symm
        exact fun w' hw => by rw [hrun]; exact ⟨_, _, _, _, _, _, rfl, rfl, hO33, hG33, hw.below, two_tails14 (Hs.pick [[bx (γ1 2) (#[.slice q33 n33 c33]) 38], Yl, Y33, Yz33] [2, 3] [0, 1] (by kernel_rfl) hw)⟩
    ·
      refine qa [(0, .no)] [2, 3, 4, 5, 12] [(20, .bool false)] ([¬ ((kd6 o.kind : Int) = (1 : Int))]) (al1 q27) (ds_ (f_ ?_))
      by_cases q50 : (kd6 o.kind : Int) = (2 : Int)
      ·
        refine qa [(0, .yes)] [2, 3, 4, 5, 12] [(20, .bool true)] ([(kd6 o.kind : Int) = (2 : Int)]) (al1 q50) (ds_ (t_ (sq_ (ao_ (qo0 2 [(1, .go (owns 2 2 1))] [3, 4] [(25, .slice o.p o.n o.cap)] (cP (fun v L' => ∃ q_ n_ c_ Y_, v = .slice q_ n_ c_ ∧ L' = List.take 3 ([bx (γ1 2) (#[.slice none 0 0]) 38, bx (γ1 1) (#[.slice q m capq]) 38, bx (γ1 0) (#[.int .i64 o.kind, .int .i64 o.a, .slice o.p o.n o.cap]) 54]) ++ (Y_ ++ List.drop 3 ([bx (γ1 2) (#[.slice none 0 0]) 38, bx (γ1 1) (#[.slice q m capq]) 38, bx (γ1 0) (#[.int .i64 o.kind, .int .i64 o.a, .slice o.p o.n o.cap]) 54])) ∧ SlO 3 Y_ q_ n_ c_ (o.l.take 17)) Try.call30 (fun w hw => (ints_t o.p o.n o.cap o.l w (hso.kept hw.below) hno (by omega) (by omega)).mono fun e w' ⟨q_, n_, c_, Y_, he, hO, hb, hY⟩ => ⟨_, _, he, ⟨q_, n_, c_, Y_, rfl, rfl, hO⟩, hw.join hb hY 3⟩) ?_))))))
        rintro v53 L53 ⟨q53, n53, c53, Y53, rfl, rfl, hO53⟩
        refine qo0 1 [] [3, 4] [(7, .slice q53 n53 c53)] (on_ (ds_ (sq_ (ao_ (qo0 2 [(0, .go (owns 1 0 1))] [4, 7] [(28, .agg #[.slice q m capq]), (29, .slice q53 n53 c53)] (cP (fun v L' => ∃ er q_ n_ c_ Y_ Z_ bl_ idn, v = .tuple #[.agg #[.slice q_ n_ c_], .int .i64 idn, .int .i64 er] ∧ L' = List.take 3 (bx (γ1 2) (#[.slice none 0 0]) 38 :: bx (γ1 1) (#[.slice q m capq]) 38 :: bx (γ1 0) (#[.int .i64 o.kind, .int .i64 o.a, .slice o.p o.n o.cap]) 54 :: (Y53 ++ [])) ++ (Y_ ++ (Z_ ++ List.drop 3 (bx (γ1 2) (#[.slice none 0 0]) 38 :: bx (γ1 1) (#[.slice q m capq]) 38 :: bx (γ1 0) (#[.int .i64 o.kind, .int .i64 o.a, .slice o.p o.n o.cap]) 54 :: (Y53 ++ [])))) ∧ SlO 46 Y_ q_ n_ c_ bl_ ∧ GotG 3 Z_ bl_ ∧ (bl_.map GngA.val, idn, er) = formV (al.map GngA.val) (o.l.take 17)) Try.call29 (fun w hw => (form_t q m capq al q53 n53 c53 (o.l.take 17) w (hal.kept hw.below) hma hbm (fun x hx => (hnm x hx).kept hw.below) hm9 (hO53.atN (A := [_, _, _]) hw) (by have := hO53.len; omega) (by have := hO53.len; rw [List.length_take] at this; omega)).mono fun e w' ⟨er, q_, n_, c_, Y_, Z_, bl_, idn, he, hv, hO, hG, hb, hY⟩ => ⟨_, _, he, ⟨er, q_, n_, c_, Y_, Z_, bl_, idn, rfl, rfl, hO, hG, hv⟩, hs_re (hw.join hb hY 3)⟩) ?_))))))
        rintro v56 L56 ⟨er56, q56, n56, c56, Y56, Yz56, bl56, id56, rfl, rfl, hO56, hG56, hV56⟩
        refine mo0 7 [(7, .go (owns 0 0 1))] [4, 7] (fun _ => [(5, .int .i64 id56), (6, .int .i64 er56)]) (fun _ L => (L.set 0 (bx (γ1 2) (#[.slice q56 n56 c56]) 38))) (fun _ => on_ (ds_ (sq_ ?_)))
        have hle9 : n53 ≤ 17 := by have := hO53.len; rw [List.length_take] at this; omega
        refine qa0 [] [4, 5, 6, 7] [(35, .int .i64 (n53 : Nat)), (36, .int .i64 0)] (ds_ (at_block (At.pick [[bx (γ1 2) (#[.slice q56 n56 c56]) 38], [bx (γ1 1) (#[.slice q m capq]) 38], [bx (γ1 0) (#[.int .i64 o.kind, .int .i64 o.a, .slice o.p o.n o.cap]) 54], Y56, Yz56, Y53] [0, 5, 3, 4] [1, 2] (bx (γ1 2) (#[.slice q56 n56 c56]) 38 :: (Y53 ++ (Y56 ++ (Yz56 ++ [])))) (by kernel_rfl) rfl rfl (at_loop (α := Nat × Option Addr × List Ob × List Int) [4, 5, 6, 7, 35, 36] (fun ⟨j, pl, Yl, ll⟩ => [(4, .pointer (some ⟨γ1 2, 0, none⟩)), (5, .int .i64 id56), (6, .int .i64 er56), (7, .slice pl n53 c53), (35, .int .i64 (n53 : Nat)), (36, .int .i64 (j : Nat))]) (fun ⟨j, pl, Yl, ll⟩ => bx (γ1 2) (#[.slice q56 n56 c56]) 38 :: (Yl ++ (Y56 ++ (Yz56 ++ [])))) (fun ⟨j, pl, Yl, ll⟩ => j ≤ n53 ∧ SlO 3 Yl pl n53 c53 ll) (fun ⟨j, pl, Yl, ll⟩ => n53 - j) (0, q53, Y53, (o.l.take 17)) (by kernel_rfl) rfl ⟨Nat.zero_le _, hO53⟩ ?_))))
        rintro ⟨j, pl, Yl, ll⟩
        rintro ⟨hj, hl⟩
        have hll := hl.len
        refine sq_ ?_
        by_cases q60 : ((j : Nat) : Int) < ((n53 : Nat) : Int)
        ·
          refine qa [(0, .yes)] [4, 5, 6, 7, 35, 36] [(37, .bool true)] ([((j : Nat) : Int) < ((n53 : Nat) : Int)]) (al1 q60) (ds_ (sq_ (t_ (at_skip (ds_ (sq_ (at_block (sq_ (qa0 [] [4, 5, 6, 7, 35, 36] [(8, .int .i64 (j : Nat))] (ds_ ?_))))))))))
          have hln64 := hl.len
          obtain ⟨g64, cs64, rfl, rfl, hOw64⟩ := hl.rowOf (i := j) (by omega)
          obtain ⟨x66, hx66⟩ := get_some (l := ll) (m := j) (by omega)
          refine ma [(2, .at g64 0 j), (3, .go (ownps 1 (0 + j * 1) [undef]))] [4, 5, 6, 7, 35, 36] (fun _ => []) (fun _ L => (L.set 1 (bx g64 ((cs64).setIfInBounds (0 + j * 1) (.int .i64 99)) 3))) (fun _ => [(some ⟨g64, 0, none⟩ : Option Addr) = some ⟨g64, 0, none⟩, (j : Nat) = ((j : Nat) : Int), j < n53] ++ ([0 + j * 1 < (cs64).size])) (fun _ => (alA (al2 rfl (al2 rfl (al1 (by omega)))) (al1 (hOw64.room hl.len hx66 (f := 0) (by decide))))) (fun _ => done_block (ds_ (qa [(0, .fit)] [4, 5, 6, 7, 35] [(36, .int .i64 (j + 1 : Nat))] ([Fit .i64 ((j + 1 : Nat))]) (al1 (fit64 (by omega) (by omega))) ?_)))
          exact dr [4, 5, 6, 7, 35, 36] (j + 1, (some ⟨g64, 0, none⟩), ([bx g64 ((cs64).setIfInBounds (0 + j * 1) (.int .i64 99)) 3]), (ll.set j 99)) ⟨by omega, (SlO.ofOwn (hOw64.put (x' := 99) hl.len hx66 (f := 0) (by decide) rfl) (len_set hl.len))⟩
        ·
          refine qa [(0, .no)] [4, 5, 6, 7, 35, 36] [(37, .bool false)] ([¬ (((j : Nat) : Int) < ((n53 : Nat) : Int))]) (al1 q60) (ds_ (sq_ (f_ (at_leave _ rfl (done_block (ds_ (sq_ (qa0 [(0, .go (owns 0 0 1)), (3, .go (owns 0 0 1))] [4] [(5, .int .i64 id56), (6, .int .i64 er56)] (ds_ (rt (owns 0 0 1) (.tuple #[.agg #[.slice q56 n56 c56], .int .i64 id56, .int .i64 er56]) ?_))))))))))
          have hrun : runG (al.map GngA.val) o = (bl56.map GngA.val, id56, er56) := (run_form (by omega)).trans hV56.symm
          exact fun w' hw => by rw [hrun]; exact ⟨_, _, _, _, _, _, rfl, rfl, hO56, hG56, hw.below, two_tails14 (Hs.pick [[bx (γ1 2) (#[.slice q56 n56 c56]) 38], Yl, Y56, Yz56] [2, 3] [0, 1] (by kernel_rfl) hw)⟩
      ·
        refine qa [(0, .no)] [2, 3, 4, 5, 12] [(20, .bool false)] ([¬ ((kd6 o.kind : Int) = (2 : Int))]) (al1 q50) (ds_ (f_ (sq_ ?_)))
        by_cases q73 : (kd6 o.kind : Int) = (3 : Int)
        ·
          refine qa [(0, .yes)] [2, 3, 4, 5] [(43, .bool true)] ([(kd6 o.kind : Int) = (3 : Int)]) (al1 q73) (ds_ (t_ (ao_ (qo0 3 [(0, .go (owns 1 0 1)), (2, .go (owns 2 1 1))] [4, 5] [(46, .agg #[.slice q m capq]), (48, .int .i64 o.a)] (cP (fun v L' => ∃ er q_ n_ c_ Y_ Z_ bl_, v = .tuple #[.agg #[.slice q_ n_ c_], .int .i64 er] ∧ L' = List.take 3 ([bx (γ1 2) (#[.slice none 0 0]) 38, bx (γ1 1) (#[.slice q m capq]) 38, bx (γ1 0) (#[.int .i64 o.kind, .int .i64 o.a, .slice o.p o.n o.cap]) 54]) ++ (Y_ ++ (Z_ ++ List.drop 3 ([bx (γ1 2) (#[.slice none 0 0]) 38, bx (γ1 1) (#[.slice q m capq]) 38, bx (γ1 0) (#[.int .i64 o.kind, .int .i64 o.a, .slice o.p o.n o.cap]) 54]))) ∧ SlO 46 Y_ q_ n_ c_ bl_ ∧ GotG 3 Z_ bl_ ∧ (bl_.map GngA.val, er) = movG (al.map GngA.val) (partC (al.map GngA.val) o.a)) Try.call31 (fun w hw => (part_t q m capq al o.a w (hal.kept hw.below) hma hbm (fun x hx => (hnm x hx).kept hw.below) hm9).mono fun e w' ⟨er, q_, n_, c_, Y_, Z_, bl_, he, hv, hO, hG, hb, hY⟩ => ⟨_, _, he, ⟨er, q_, n_, c_, Y_, Z_, bl_, rfl, rfl, hO, hG, hv⟩, hs_re (hw.join hb hY 3)⟩) ?_)))))
          rintro v76 L76 ⟨er76, q76, n76, c76, Y76, Yz76, bl76, rfl, rfl, hO76, hG76, hV76⟩
          refine mo0 5 [(7, .go (owns 0 0 1))] [4, 5] (fun _ => [(6, .int .i64 er76)]) (fun _ L => (L.set 0 (bx (γ1 2) (#[.slice q76 n76 c76]) 38))) (fun _ => on_ (done_block (ds_ (sq_ (qa0 [(0, .go (owns 0 0 1)), (3, .go (owns 0 0 1))] [4] [(5, .int .i64 0), (6, .int .i64 er76)] (ds_ (rt (owns 0 0 1) (.tuple #[.agg #[.slice q76 n76 c76], .int .i64 0, .int .i64 er76]) ?_)))))))
          have hrun : runG (al.map GngA.val) o = (bl76.map GngA.val, 0, er76) := (run_part (by omega)).trans (by rw [← hV76])
          exact fun w' hw => by rw [hrun]; exact ⟨_, _, _, _, _, _, rfl, rfl, hO76, hG76, hw.below, two_tails14 (Hs.pick [[bx (γ1 2) (#[.slice q76 n76 c76]) 38], [bx (γ1 1) (#[.slice q m capq]) 38], [bx (γ1 0) (#[.int .i64 o.kind, .int .i64 o.a, .slice o.p o.n o.cap]) 54], Y76, Yz76] [3, 4] [0, 1, 2] (by kernel_rfl) hw)⟩
        ·
          refine qa [(0, .no)] [2, 3, 4, 5] [(43, .bool false)] ([¬ ((kd6 o.kind : Int) = (3 : Int))]) (al1 q73) (ds_ (f_ (ao_ (qo0 3 [(0, .go (owns 1 0 1)), (2, .go (owns 2 1 1))] [4, 5] [(14, .agg #[.slice q m capq]), (16, .int .i64 o.a)] (cP (fun v L' => ∃ er q_ n_ c_ Y_ Z_ bl_, v = .tuple #[.agg #[.slice q_ n_ c_], .int .i64 er] ∧ L' = List.take 3 ([bx (γ1 2) (#[.slice none 0 0]) 38, bx (γ1 1) (#[.slice q m capq]) 38, bx (γ1 0) (#[.int .i64 o.kind, .int .i64 o.a, .slice o.p o.n o.cap]) 54]) ++ (Y_ ++ (Z_ ++ List.drop 3 ([bx (γ1 2) (#[.slice none 0 0]) 38, bx (γ1 1) (#[.slice q m capq]) 38, bx (γ1 0) (#[.int .i64 o.kind, .int .i64 o.a, .slice o.p o.n o.cap]) 54]))) ∧ SlO 46 Y_ q_ n_ c_ bl_ ∧ GotG 3 Z_ bl_ ∧ (bl_.map GngA.val, er) = movG (al.map GngA.val) (leaveC (al.map GngA.val) o.a)) Try.call33 (fun w hw => (leave_t q m capq al o.a w (hal.kept hw.below) hma hbm (fun x hx => (hnm x hx).kept hw.below) hm9).mono fun e w' ⟨er, q_, n_, c_, Y_, Z_, bl_, he, hv, hO, hG, hb, hY⟩ => ⟨_, _, he, ⟨er, q_, n_, c_, Y_, Z_, bl_, rfl, rfl, hO, hG, hv⟩, hs_re (hw.join hb hY 3)⟩) ?_)))))
          rintro v81 L81 ⟨er81, q81, n81, c81, Y81, Yz81, bl81, rfl, rfl, hO81, hG81, hV81⟩
          refine mo0 5 [(7, .go (owns 0 0 1))] [4, 5] (fun _ => [(6, .int .i64 er81)]) (fun _ L => (L.set 0 (bx (γ1 2) (#[.slice q81 n81 c81]) 38))) (fun _ => on_ (done_block (ds_ (sq_ (qa0 [(0, .go (owns 0 0 1)), (3, .go (owns 0 0 1))] [4] [(5, .int .i64 0), (6, .int .i64 er81)] (ds_ (rt (owns 0 0 1) (.tuple #[.agg #[.slice q81 n81 c81], .int .i64 0, .int .i64 er81]) ?_)))))))
          have hrun : runG (al.map GngA.val) o = (bl81.map GngA.val, 0, er81) := (run_leave (by omega) (by omega)).trans (by rw [← hV81])
          exact fun w' hw => by rw [hrun]; exact ⟨_, _, _, _, _, _, rfl, rfl, hO81, hG81, hw.below, two_tails14 (Hs.pick [[bx (γ1 2) (#[.slice q81 n81 c81]) 38], [bx (γ1 1) (#[.slice q m capq]) 38], [bx (γ1 0) (#[.int .i64 o.kind, .int .i64 o.a, .slice o.p o.n o.cap]) 54], Y81, Yz81] [3, 4] [0, 1, 2] (by kernel_rfl) hw)⟩

set_option maxRecDepth 100000 in
theorem wants_t14 (o : OpG) (q : Option Addr) (m capq : Nat) (al : List GngA) (w : World)
    (hal : Sv w q al) (hma : m = al.length) (hbm : m ≤ 1000) (hnm : ∀ x ∈ al, x.Reads w) (hm9 : ∀ x ∈ al, x.n ≤ 1000)
    (hcq : m ≤ capq)
    (hso : Sv w o.p o.l) (hno : o.n = o.l.length) (hco : o.n ≤ o.cap) (hbo : o.cap ≤ 9223372036854775807)
    : Calls Try.prog 27 #[.agg #[.int .i64 o.kind, .int .i64 o.a, .slice o.p o.n o.cap], .agg #[.slice q m capq]] w fun e w' => ∃ q' n' c' Y Yi bl, e = .returned (.tuple #[.agg #[.slice q' n' c'], .int .i64 (runG (al.map GngA.val) o).2.1, .int .i64 (runG (al.map GngA.val) o).2.2]) ∧ bl.map GngA.val = (runG (al.map GngA.val) o).1 ∧ SlO 46 Y q' n' c' bl ∧ GotG 3 Yi bl ∧ Below w.heap.size w w' ∧ Hs w (Y ++ Yi) w' := by
  refine enter (Hs.start w) Try.func27 rfl Try.ntmps27 rfl (sq_ (ma0 [] [] (fun γ1 => [(2, .pointer (some ⟨γ1 0, 0, none⟩)), (3, .pointer (some ⟨γ1 1, 0, none⟩)), (4, .pointer (some ⟨γ1 2, 0, none⟩)), (5, .int .i64 0)]) (fun γ1 L => bx (γ1 2) (#[.slice none 0 0]) 38 :: bx (γ1 1) (#[.slice q m capq]) 38 :: bx (γ1 0) (#[.int .i64 o.kind, .int .i64 o.a, .slice o.p o.n o.cap]) 54 :: L) (fun γ1 => ds_ (sq_ (sq_ (ao_ (qo0 1 [(0, .go (owns 1 0 1))] [2, 3, 4, 5] [(7, .agg #[.slice q m capq])] ?_)))))))
  rcases q3 : gangB (al.map GngA.val) with _ | _
  ·
    refine cD (.bool false) Try.call17 (fun w hw => by have := rright_t q m capq al w (hal.kept hw.below) hma hbm (fun x hx => (hnm x hx).kept hw.below) hm9 hcq; rw [q3] at this; exact this) (qo0 1 [] [2, 3, 4, 5] [(9, .bool true)] (on_ (ds_ (t_ (sq_ (qa0 [(1, .go (owns 0 0 1))] [4] [(5, .int .i64 0), (6, .int .i64 240)] (ds_ (rt (owns 0 0 1) (.tuple #[.agg #[.slice none 0 0], .int .i64 0, .int .i64 240]) ?_))))))))
    exact fun w' hw => by rw [run_bad q3]; exact ⟨none, 0, 0, [], [], [], rfl, rfl, SlO.nil, GotG.nil, hw.below, hw.sub (List.nil_sublist _)⟩
  ·
    refine cD (.bool true) Try.call17 (fun w hw => by have := rright_t q m capq al w (hal.kept hw.below) hma hbm (fun x hx => (hnm x hx).kept hw.below) hm9 hcq; rw [q3] at this; exact this) (qo0 1 [] [2, 3, 4, 5] [(9, .bool false)] (on_ (ds_ (f_ (at_skip (ds_ (sq_ (sq_ (qa0 [(1, .go (owns 2 0 1))] [2, 3, 4, 5] [(14, .int .u64 (kd6 o.kind))] (ds_ (at_block (sq_ (sq_ ?_)))))))))))))
    by_cases q9 : (kd6 o.kind : Int) = (0 : Int)
    ·
      refine qa [(0, .yes)] [2, 3, 4, 5, 14] [(22, .bool true)] ([(kd6 o.kind : Int) = (0 : Int)]) (al1 q9) (ds_ (t_ (at_skip (ds_ (t_ ?_)))))
      refine at_any (by kernel_rfl) ?_
      refine tk (m := 11) [1] [] [3, 4, 5] [(28, .pointer (some ⟨γ1 0, 2, none⟩))] ([]) #[false, true, false, false, false, false, false, false, false, false, false, false] al0 ?_
      refine any_cutX (V := (List Ob) × (List Ob) × (List Ob) × (List GngA) × (Nat) × (Nat) × (Int) × (Int) × (Nat) × (Nat) × (Option Addr) × (Option Addr)) (fun ⟨Y74, Y94, Yz94, bl94, c74, c94, er94, id94, n74, n94, q74, q94⟩ => GotG 3 Yz94 bl94 ∧ SlO 3 Y74 q74 n74 c74 (o.l.take 17) ∧ SlO 46 Y94 q94 n94 c94 bl94 ∧ (bl94.map GngA.val, id94, er94) = formV (al.map GngA.val) (o.l.take 17)) 0 #[true, true, true, true, true, true, true, true, true, true, true, true] (fun ⟨Y74, Y94, Yz94, bl94, c74, c94, er94, id94, n74, n94, q74, q94⟩ => [(4, .pointer (some ⟨γ1 2, 0, none⟩)), (5, .int .i64 id94), (6, .int .i64 er94)]) (fun ⟨Y74, Y94, Yz94, bl94, c74, c94, er94, id94, n74, n94, q74, q94⟩ => bx (γ1 2) (#[.slice q94 n94 c94]) 38 :: bx (γ1 1) (#[.slice q m capq]) 38 :: bx (γ1 0) (#[.int .i64 o.kind, .int .i64 o.a, .slice o.p o.n o.cap]) 54 :: (Y74 ++ (Y94 ++ (Yz94 ++ [])))) ?_ (fun hmx7 => ?_)
      rotate_left
      ·
        refine any_cutX (V := (List Ob) × (List Ob) × (List Ob) × (List GngA) × (Nat) × (Nat) × (Int) × (Int) × (Nat) × (Nat) × (Option Addr) × (Option Addr)) (fun ⟨Y74, Y94, Yz94, bl94, c74, c94, er94, id94, n74, n94, q74, q94⟩ => GotG 3 Yz94 bl94 ∧ SlO 3 Y74 q74 n74 c74 (o.l.take 17) ∧ SlO 46 Y94 q94 n94 c94 bl94 ∧ (bl94.map GngA.val, id94, er94) = formV (al.map GngA.val) (o.l.take 17)) 3 #[true, true, true, true, true, true, true, true, true, false, false, false] (fun ⟨Y74, Y94, Yz94, bl94, c74, c94, er94, id94, n74, n94, q74, q94⟩ => [(4, .pointer (some ⟨γ1 2, 0, none⟩)), (5, .int .i64 0), (32, .agg #[.slice q94 n94 c94]), (33, .int .i64 id94), (34, .int .i64 er94)]) (fun ⟨Y74, Y94, Yz94, bl94, c74, c94, er94, id94, n74, n94, q74, q94⟩ => bx (γ1 2) (#[.slice none 0 0]) 38 :: bx (γ1 1) (#[.slice q m capq]) 38 :: bx (γ1 0) (#[.int .i64 o.kind, .int .i64 o.a, .slice o.p o.n o.cap]) 54 :: (Y74 ++ (Y94 ++ (Yz94 ++ [])))) ?_ (fun hmx6 => ?_)
        ·
          rintro ⟨Y74, Y94, Yz94, bl94, c74, c94, er94, id94, n74, n94, q74, q94⟩ ⟨hG94, hO74, hO94, hV94⟩
          refine a1 9 rfl ?_
          refine mo0 1 [(9, .go (owns 0 0 1))] [4, 5, 33, 34] (fun _ => []) (fun _ L => (L.set 0 (bx (γ1 2) (#[.slice q94 n94 c94]) 38))) (fun _ => ?_)
          refine od_ ?_
          refine tk (m := 0) [10, 11] [] [4] [(5, .int .i64 id94), (6, .int .i64 er94)] ([]) #[true, true, true, true, true, true, true, true, true, true, true, true] al0 ?_
          exact wk (hmx7 (Y74, Y94, Yz94, bl94, c74, c94, er94, id94, n74, n94, q74, q94) ⟨hG94, hO74, hO94, hV94⟩) [4, 5, 6] [[_], [_], [_], _, _, _] [0, 1, 2, 3, 4, 5] rfl rfl
        refine any_cutX (V := (List Ob) × (Nat) × (Nat) × (Option Addr)) (fun ⟨Y74, c74, n74, q74⟩ => SlO 3 Y74 q74 n74 c74 (o.l.take 17)) 8 #[true, true, true, true, false, false, false, false, false, false, false, false] (fun ⟨Y74, c74, n74, q74⟩ => [(4, .pointer (some ⟨γ1 2, 0, none⟩)), (5, .int .i64 0), (27, .agg #[.slice q m capq]), (30, .slice q74 n74 c74)]) (fun ⟨Y74, c74, n74, q74⟩ => bx (γ1 2) (#[.slice none 0 0]) 38 :: bx (γ1 1) (#[.slice q m capq]) 38 :: bx (γ1 0) (#[.int .i64 o.kind, .int .i64 o.a, .slice o.p o.n o.cap]) 54 :: (Y74 ++ [])) ?_ (fun hmx5 => ?_)
        ·
          rintro ⟨Y74, c74, n74, q74⟩ hO74
          refine a1 4 rfl ?_
          refine cP (fun v L' => ∃ er q_ n_ c_ Y_ Z_ bl_ idn, v = .tuple #[.agg #[.slice q_ n_ c_], .int .i64 idn, .int .i64 er] ∧ L' = List.take 3 (bx (γ1 2) (#[.slice none 0 0]) 38 :: bx (γ1 1) (#[.slice q m capq]) 38 :: bx (γ1 0) (#[.int .i64 o.kind, .int .i64 o.a, .slice o.p o.n o.cap]) 54 :: (Y74 ++ [])) ++ (Y_ ++ (Z_ ++ List.drop 3 (bx (γ1 2) (#[.slice none 0 0]) 38 :: bx (γ1 1) (#[.slice q m capq]) 38 :: bx (γ1 0) (#[.int .i64 o.kind, .int .i64 o.a, .slice o.p o.n o.cap]) 54 :: (Y74 ++ [])))) ∧ SlO 46 Y_ q_ n_ c_ bl_ ∧ GotG 3 Z_ bl_ ∧ (bl_.map GngA.val, idn, er) = formV (al.map GngA.val) (o.l.take 17)) Try.call47 (fun w hw => (rform_t q m capq al q74 n74 c74 (o.l.take 17) w (hal.kept hw.below) hma hbm (fun x hx => (hnm x hx).kept hw.below) hm9 (hO74.atN (A := [_, _, _]) hw) (by have := hO74.len; omega) (by have := hO74.len; rw [List.length_take] at this; omega) q3).mono fun e w' ⟨er, q_, n_, c_, Y_, Z_, bl_, idn, he, hv, hO, hG, hb, hY⟩ => ⟨_, _, he, ⟨er, q_, n_, c_, Y_, Z_, bl_, idn, rfl, rfl, hO, hG, hv⟩, hs_re (hw.join hb hY 3)⟩) ?_
          rintro v94 L94 ⟨er94, q94, n94, c94, Y94, Yz94, bl94, id94, rfl, rfl, hO94, hG94, hV94⟩
          refine od_ ?_
          refine tk (m := 3) [5, 6, 7, 8] [] [4, 5] [(32, .agg #[.slice q94 n94 c94]), (33, .int .i64 id94), (34, .int .i64 er94)] ([]) #[true, true, true, true, true, true, true, true, true, false, false, false] al0 ?_
          exact wk (hmx6 (Y74, Y94, Yz94, bl94, c74, c94, er94, id94, n74, n94, q74, q94) ⟨hG94, hO74, hO94, hV94⟩) [4, 5, 32, 33, 34] [[_], [_], [_], _, _, _] [0, 1, 2, 5, 3, 4] rfl rfl
        refine any_cutX (V := (List Ob) × (Nat) × (Nat) × (Option Addr)) (fun ⟨Y74, c74, n74, q74⟩ => SlO 3 Y74 q74 n74 c74 (o.l.take 17)) 9 #[false, true, true, true, false, false, false, false, false, false, false, false] (fun ⟨Y74, c74, n74, q74⟩ => [(3, .pointer (some ⟨γ1 1, 0, none⟩)), (4, .pointer (some ⟨γ1 2, 0, none⟩)), (5, .int .i64 0), (30, .slice q74 n74 c74)]) (fun ⟨Y74, c74, n74, q74⟩ => bx (γ1 2) (#[.slice none 0 0]) 38 :: bx (γ1 1) (#[.slice q m capq]) 38 :: bx (γ1 0) (#[.int .i64 o.kind, .int .i64 o.a, .slice o.p o.n o.cap]) 54 :: (Y74 ++ [])) ?_ (fun hmx4 => ?_)
        ·
          rintro ⟨Y74, c74, n74, q74⟩ hO74
          refine a1 0 rfl ?_
          refine qo0 1 [(0, .go (owns 1 0 1))] [4, 5, 30] [(27, .agg #[.slice q m capq])] ?_
          refine od_ ?_
          exact wk (hmx5 (Y74, c74, n74, q74) hO74) [4, 5, 27, 30] [[_], [_], [_], _] [0, 1, 2, 3] rfl rfl
        refine any_cutX (V := Unit) (fun _ => True) 9 #[true, true, true, false, false, false, false, false, false, false, false, false] (fun _ => [(4, .pointer (some ⟨γ1 2, 0, none⟩)), (5, .int .i64 0), (27, .agg #[.slice q m capq]), (29, .slice o.p o.n o.cap)]) (fun _ => [bx (γ1 2) (#[.slice none 0 0]) 38, bx (γ1 1) (#[.slice q m capq]) 38, bx (γ1 0) (#[.int .i64 o.kind, .int .i64 o.a, .slice o.p o.n o.cap]) 54]) ?_ (fun hmx3 => ?_)
        ·
          rintro _ _
          refine a1 3 rfl ?_
          refine cP (fun v L' => ∃ q_ n_ c_ Y_, v = .slice q_ n_ c_ ∧ L' = List.take 3 ([bx (γ1 2) (#[.slice none 0 0]) 38, bx (γ1 1) (#[.slice q m capq]) 38, bx (γ1 0) (#[.int .i64 o.kind, .int .i64 o.a, .slice o.p o.n o.cap]) 54]) ++ (Y_ ++ List.drop 3 ([bx (γ1 2) (#[.slice none 0 0]) 38, bx (γ1 1) (#[.slice q m capq]) 38, bx (γ1 0) (#[.int .i64 o.kind, .int .i64 o.a, .slice o.p o.n o.cap]) 54])) ∧ SlO 3 Y_ q_ n_ c_ (o.l.take 17)) Try.call30 (fun w hw => (ints_t o.p o.n o.cap o.l w (hso.kept hw.below) hno (by omega) (by omega)).mono fun e w' ⟨q_, n_, c_, Y_, he, hO, hb, hY⟩ => ⟨_, _, he, ⟨q_, n_, c_, Y_, rfl, rfl, hO⟩, hw.join hb hY 3⟩) ?_
          rintro v74 L74 ⟨q74, n74, c74, Y74, rfl, rfl, hO74⟩
          refine od_ ?_
          exact wk (hmx5 (Y74, c74, n74, q74) hO74) [4, 5, 27, 30] [[_], [_], [_], _] [0, 1, 2, 3] rfl rfl
        refine any_cutX (V := Unit) (fun _ => True) 10 #[false, true, true, false, false, false, false, false, false, false, false, false] (fun _ => [(3, .pointer (some ⟨γ1 1, 0, none⟩)), (4, .pointer (some ⟨γ1 2, 0, none⟩)), (5, .int .i64 0), (29, .slice o.p o.n o.cap)]) (fun _ => [bx (γ1 2) (#[.slice none 0 0]) 38, bx (γ1 1) (#[.slice q m capq]) 38, bx (γ1 0) (#[.int .i64 o.kind, .int .i64 o.a, .slice o.p o.n o.cap]) 54]) ?_ (fun hmx2 => ?_)
        ·
          rintro _ _
          refine any_fork [0, 3] (by kernel_rfl) (by simp) (each_cons _ rfl ?_ (each_cons _ rfl ?_ (each_nil)))
          ·
            refine qo0 1 [(0, .go (owns 1 0 1))] [4, 5, 29] [(27, .agg #[.slice q m capq])] ?_
            refine od_ ?_
            exact wk (hmx3 () trivial) [4, 5, 27, 29] [[_], [_], [_]] [0, 1, 2] rfl rfl
          ·
            refine cP (fun v L' => ∃ q_ n_ c_ Y_, v = .slice q_ n_ c_ ∧ L' = List.take 3 ([bx (γ1 2) (#[.slice none 0 0]) 38, bx (γ1 1) (#[.slice q m capq]) 38, bx (γ1 0) (#[.int .i64 o.kind, .int .i64 o.a, .slice o.p o.n o.cap]) 54]) ++ (Y_ ++ List.drop 3 ([bx (γ1 2) (#[.slice none 0 0]) 38, bx (γ1 1) (#[.slice q m capq]) 38, bx (γ1 0) (#[.int .i64 o.kind, .int .i64 o.a, .slice o.p o.n o.cap]) 54])) ∧ SlO 3 Y_ q_ n_ c_ (o.l.take 17)) Try.call30 (fun w hw => (ints_t o.p o.n o.cap o.l w (hso.kept hw.below) hno (by omega) (by omega)).mono fun e w' ⟨q_, n_, c_, Y_, he, hO, hb, hY⟩ => ⟨_, _, he, ⟨q_, n_, c_, Y_, rfl, rfl, hO⟩, hw.join hb hY 3⟩) ?_
            rintro v74 L74 ⟨q74, n74, c74, Y74, rfl, rfl, hO74⟩
            refine od_ ?_
            exact wk (hmx4 (Y74, c74, n74, q74) hO74) [3, 4, 5, 30] [[_], [_], [_], _] [0, 1, 2, 3] rfl rfl
        refine any_cutX (V := Unit) (fun _ => True) 10 #[true, true, false, false, false, false, false, false, false, false, false, false] (fun _ => [(4, .pointer (some ⟨γ1 2, 0, none⟩)), (5, .int .i64 0), (27, .agg #[.slice q m capq]), (28, .pointer (some ⟨γ1 0, 2, none⟩))]) (fun _ => [bx (γ1 2) (#[.slice none 0 0]) 38, bx (γ1 1) (#[.slice q m capq]) 38, bx (γ1 0) (#[.int .i64 o.kind, .int .i64 o.a, .slice o.p o.n o.cap]) 54]) ?_ (fun hmx1 => ?_)
        ·
          rintro _ _
          refine a1 2 rfl ?_
          refine qo0 1 [(2, .go (owns 2 2 1))] [4, 5, 27] [(29, .slice o.p o.n o.cap)] ?_
          refine od_ ?_
          exact wk (hmx3 () trivial) [4, 5, 27, 29] [[_], [_], [_]] [0, 1, 2] rfl rfl
        refine any_fork [0, 2] (by kernel_rfl) (by simp) (each_cons _ rfl ?_ (each_cons _ rfl ?_ (each_nil)))
        ·
          refine qo0 1 [(0, .go (owns 1 0 1))] [4, 5, 28] [(27, .agg #[.slice q m capq])] ?_
          refine od_ ?_
          exact wk (hmx1 () trivial) [4, 5, 27, 28] [[_], [_], [_]] [0, 1, 2] rfl rfl
        ·
          refine qo0 1 [(2, .go (owns 2 2 1))] [3, 4, 5] [(29, .slice o.p o.n o.cap)] ?_
          refine od_ ?_
          exact wk (hmx2 () trivial) [3, 4, 5, 29] [[_], [_], [_]] [0, 1, 2] rfl rfl
      rintro ⟨Y74, Y94, Yz94, bl94, c74, c94, er94, id94, n74, n94, q74, q94⟩ ⟨hG94, hO74, hO94, hV94⟩
      refine any_nil (by kernel_rfl) ?_
      refine done_block (ds_ (sq_ (qa0 [(0, .go (owns 0 0 1)), (3, .go (owns 0 0 1))] [4] [(5, .int .i64 id94), (6, .int .i64 er94)] (ds_ (rt (owns 0 0 1) (.tuple #[.agg #[.slice q94 n94 c94], .int .i64 id94, .int .i64 er94]) ?_)))))
      have hrun : runG (al.map GngA.val) o = (bl94.map GngA.val, id94, er94) := (run_form (by omega)).trans hV94.symm
      exact fun w' hw => by rw [hrun]; exact ⟨_, _, _, _, _, _, rfl, rfl, hO94, hG94, hw.below, two_tails14 (Hs.pick [[bx (γ1 2) (#[.slice q94 n94 c94]) 38], [bx (γ1 1) (#[.slice q m capq]) 38], [bx (γ1 0) (#[.int .i64 o.kind, .int .i64 o.a, .slice o.p o.n o.cap]) 54], Y74, Y94, Yz94] [4, 5] [0, 1, 2, 3] (by kernel_rfl) hw)⟩
    ·
      refine qa [(0, .no)] [2, 3, 4, 5, 14] [(22, .bool false)] ([¬ ((kd6 o.kind : Int) = (0 : Int))]) (al1 q9) (ds_ (f_ (sq_ ?_)))
      by_cases q300 : (kd6 o.kind : Int) = (1 : Int)
      ·
        refine qa [(0, .yes)] [2, 3, 4, 5, 14] [(22, .bool true)] ([(kd6 o.kind : Int) = (1 : Int)]) (al1 q300) (ds_ (t_ (at_skip (ds_ (t_ ?_)))))
        refine at_any (by kernel_rfl) ?_
        refine tk (m := 11) [1] [] [3, 4, 5] [(28, .pointer (some ⟨γ1 0, 2, none⟩))] ([]) #[false, true, false, false, false, false, false, false, false, false, false, false] al0 ?_
        refine any_cutX (V := (List Ob) × (List Ob) × (List Ob) × (List GngA) × (Nat) × (Nat) × (Int) × (Int) × (Nat) × (Nat) × (Option Addr) × (Option Addr)) (fun ⟨Y365, Y385, Yz385, bl385, c365, c385, er385, id385, n365, n385, q365, q385⟩ => GotG 3 Yz385 bl385 ∧ SlO 3 Y365 q365 n365 c365 (o.l.take 17) ∧ SlO 46 Y385 q385 n385 c385 bl385 ∧ (bl385.map GngA.val, id385, er385) = formV (al.map GngA.val) (o.l.take 17)) 0 #[true, true, true, true, true, true, true, true, true, true, true, true] (fun ⟨Y365, Y385, Yz385, bl385, c365, c385, er385, id385, n365, n385, q365, q385⟩ => [(4, .pointer (some ⟨γ1 2, 0, none⟩)), (5, .int .i64 id385), (6, .int .i64 er385)]) (fun ⟨Y365, Y385, Yz385, bl385, c365, c385, er385, id385, n365, n385, q365, q385⟩ => bx (γ1 2) (#[.slice q385 n385 c385]) 38 :: bx (γ1 1) (#[.slice q m capq]) 38 :: bx (γ1 0) (#[.int .i64 o.kind, .int .i64 o.a, .slice o.p o.n o.cap]) 54 :: (Y365 ++ (Y385 ++ (Yz385 ++ [])))) ?_ (fun hmx7 => ?_)
        rotate_left
        ·
          refine any_cutX (V := (List Ob) × (List Ob) × (List Ob) × (List GngA) × (Nat) × (Nat) × (Int) × (Int) × (Nat) × (Nat) × (Option Addr) × (Option Addr)) (fun ⟨Y365, Y385, Yz385, bl385, c365, c385, er385, id385, n365, n385, q365, q385⟩ => GotG 3 Yz385 bl385 ∧ SlO 3 Y365 q365 n365 c365 (o.l.take 17) ∧ SlO 46 Y385 q385 n385 c385 bl385 ∧ (bl385.map GngA.val, id385, er385) = formV (al.map GngA.val) (o.l.take 17)) 3 #[true, true, true, true, true, true, true, true, true, false, false, false] (fun ⟨Y365, Y385, Yz385, bl385, c365, c385, er385, id385, n365, n385, q365, q385⟩ => [(4, .pointer (some ⟨γ1 2, 0, none⟩)), (5, .int .i64 0), (32, .agg #[.slice q385 n385 c385]), (33, .int .i64 id385), (34, .int .i64 er385)]) (fun ⟨Y365, Y385, Yz385, bl385, c365, c385, er385, id385, n365, n385, q365, q385⟩ => bx (γ1 2) (#[.slice none 0 0]) 38 :: bx (γ1 1) (#[.slice q m capq]) 38 :: bx (γ1 0) (#[.int .i64 o.kind, .int .i64 o.a, .slice o.p o.n o.cap]) 54 :: (Y365 ++ (Y385 ++ (Yz385 ++ [])))) ?_ (fun hmx6 => ?_)
          ·
            rintro ⟨Y365, Y385, Yz385, bl385, c365, c385, er385, id385, n365, n385, q365, q385⟩ ⟨hG385, hO365, hO385, hV385⟩
            refine a1 9 rfl ?_
            refine mo0 1 [(9, .go (owns 0 0 1))] [4, 5, 33, 34] (fun _ => []) (fun _ L => (L.set 0 (bx (γ1 2) (#[.slice q385 n385 c385]) 38))) (fun _ => ?_)
            refine od_ ?_
            refine tk (m := 0) [10, 11] [] [4] [(5, .int .i64 id385), (6, .int .i64 er385)] ([]) #[true, true, true, true, true, true, true, true, true, true, true, true] al0 ?_
            exact wk (hmx7 (Y365, Y385, Yz385, bl385, c365, c385, er385, id385, n365, n385, q365, q385) ⟨hG385, hO365, hO385, hV385⟩) [4, 5, 6] [[_], [_], [_], _, _, _] [0, 1, 2, 3, 4, 5] rfl rfl
          refine any_cutX (V := (List Ob) × (Nat) × (Nat) × (Option Addr)) (fun ⟨Y365, c365, n365, q365⟩ => SlO 3 Y365 q365 n365 c365 (o.l.take 17)) 8 #[true, true, true, true, false, false, false, false, false, false, false, false] (fun ⟨Y365, c365, n365, q365⟩ => [(4, .pointer (some ⟨γ1 2, 0, none⟩)), (5, .int .i64 0), (27, .agg #[.slice q m capq]), (30, .slice q365 n365 c365)]) (fun ⟨Y365, c365, n365, q365⟩ => bx (γ1 2) (#[.slice none 0 0]) 38 :: bx (γ1 1) (#[.slice q m capq]) 38 :: bx (γ1 0) (#[.int .i64 o.kind, .int .i64 o.a, .slice o.p o.n o.cap]) 54 :: (Y365 ++ [])) ?_ (fun hmx5 => ?_)
          ·
            rintro ⟨Y365, c365, n365, q365⟩ hO365
            refine a1 4 rfl ?_
            refine cP (fun v L' => ∃ er q_ n_ c_ Y_ Z_ bl_ idn, v = .tuple #[.agg #[.slice q_ n_ c_], .int .i64 idn, .int .i64 er] ∧ L' = List.take 3 (bx (γ1 2) (#[.slice none 0 0]) 38 :: bx (γ1 1) (#[.slice q m capq]) 38 :: bx (γ1 0) (#[.int .i64 o.kind, .int .i64 o.a, .slice o.p o.n o.cap]) 54 :: (Y365 ++ [])) ++ (Y_ ++ (Z_ ++ List.drop 3 (bx (γ1 2) (#[.slice none 0 0]) 38 :: bx (γ1 1) (#[.slice q m capq]) 38 :: bx (γ1 0) (#[.int .i64 o.kind, .int .i64 o.a, .slice o.p o.n o.cap]) 54 :: (Y365 ++ [])))) ∧ SlO 46 Y_ q_ n_ c_ bl_ ∧ GotG 3 Z_ bl_ ∧ (bl_.map GngA.val, idn, er) = formV (al.map GngA.val) (o.l.take 17)) Try.call47 (fun w hw => (rform_t q m capq al q365 n365 c365 (o.l.take 17) w (hal.kept hw.below) hma hbm (fun x hx => (hnm x hx).kept hw.below) hm9 (hO365.atN (A := [_, _, _]) hw) (by have := hO365.len; omega) (by have := hO365.len; rw [List.length_take] at this; omega) q3).mono fun e w' ⟨er, q_, n_, c_, Y_, Z_, bl_, idn, he, hv, hO, hG, hb, hY⟩ => ⟨_, _, he, ⟨er, q_, n_, c_, Y_, Z_, bl_, idn, rfl, rfl, hO, hG, hv⟩, hs_re (hw.join hb hY 3)⟩) ?_
            rintro v385 L385 ⟨er385, q385, n385, c385, Y385, Yz385, bl385, id385, rfl, rfl, hO385, hG385, hV385⟩
            refine od_ ?_
            refine tk (m := 3) [5, 6, 7, 8] [] [4, 5] [(32, .agg #[.slice q385 n385 c385]), (33, .int .i64 id385), (34, .int .i64 er385)] ([]) #[true, true, true, true, true, true, true, true, true, false, false, false] al0 ?_
            exact wk (hmx6 (Y365, Y385, Yz385, bl385, c365, c385, er385, id385, n365, n385, q365, q385) ⟨hG385, hO365, hO385, hV385⟩) [4, 5, 32, 33, 34] [[_], [_], [_], _, _, _] [0, 1, 2, 5, 3, 4] rfl rfl
          refine any_cutX (V := (List Ob) × (Nat) × (Nat) × (Option Addr)) (fun ⟨Y365, c365, n365, q365⟩ => SlO 3 Y365 q365 n365 c365 (o.l.take 17)) 9 #[false, true, true, true, false, false, false, false, false, false, false, false] (fun ⟨Y365, c365, n365, q365⟩ => [(3, .pointer (some ⟨γ1 1, 0, none⟩)), (4, .pointer (some ⟨γ1 2, 0, none⟩)), (5, .int .i64 0), (30, .slice q365 n365 c365)]) (fun ⟨Y365, c365, n365, q365⟩ => bx (γ1 2) (#[.slice none 0 0]) 38 :: bx (γ1 1) (#[.slice q m capq]) 38 :: bx (γ1 0) (#[.int .i64 o.kind, .int .i64 o.a, .slice o.p o.n o.cap]) 54 :: (Y365 ++ [])) ?_ (fun hmx4 => ?_)
          ·
            rintro ⟨Y365, c365, n365, q365⟩ hO365
            refine a1 0 rfl ?_
            refine qo0 1 [(0, .go (owns 1 0 1))] [4, 5, 30] [(27, .agg #[.slice q m capq])] ?_
            refine od_ ?_
            exact wk (hmx5 (Y365, c365, n365, q365) hO365) [4, 5, 27, 30] [[_], [_], [_], _] [0, 1, 2, 3] rfl rfl
          refine any_cutX (V := Unit) (fun _ => True) 9 #[true, true, true, false, false, false, false, false, false, false, false, false] (fun _ => [(4, .pointer (some ⟨γ1 2, 0, none⟩)), (5, .int .i64 0), (27, .agg #[.slice q m capq]), (29, .slice o.p o.n o.cap)]) (fun _ => [bx (γ1 2) (#[.slice none 0 0]) 38, bx (γ1 1) (#[.slice q m capq]) 38, bx (γ1 0) (#[.int .i64 o.kind, .int .i64 o.a, .slice o.p o.n o.cap]) 54]) ?_ (fun hmx3 => ?_)
          ·
            rintro _ _
            refine a1 3 rfl ?_
            refine cP (fun v L' => ∃ q_ n_ c_ Y_, v = .slice q_ n_ c_ ∧ L' = List.take 3 ([bx (γ1 2) (#[.slice none 0 0]) 38, bx (γ1 1) (#[.slice q m capq]) 38, bx (γ1 0) (#[.int .i64 o.kind, .int .i64 o.a, .slice o.p o.n o.cap]) 54]) ++ (Y_ ++ List.drop 3 ([bx (γ1 2) (#[.slice none 0 0]) 38, bx (γ1 1) (#[.slice q m capq]) 38, bx (γ1 0) (#[.int .i64 o.kind, .int .i64 o.a, .slice o.p o.n o.cap]) 54])) ∧ SlO 3 Y_ q_ n_ c_ (o.l.take 17)) Try.call30 (fun w hw => (ints_t o.p o.n o.cap o.l w (hso.kept hw.below) hno (by omega) (by omega)).mono fun e w' ⟨q_, n_, c_, Y_, he, hO, hb, hY⟩ => ⟨_, _, he, ⟨q_, n_, c_, Y_, rfl, rfl, hO⟩, hw.join hb hY 3⟩) ?_
            rintro v365 L365 ⟨q365, n365, c365, Y365, rfl, rfl, hO365⟩
            refine od_ ?_
            exact wk (hmx5 (Y365, c365, n365, q365) hO365) [4, 5, 27, 30] [[_], [_], [_], _] [0, 1, 2, 3] rfl rfl
          refine any_cutX (V := Unit) (fun _ => True) 10 #[false, true, true, false, false, false, false, false, false, false, false, false] (fun _ => [(3, .pointer (some ⟨γ1 1, 0, none⟩)), (4, .pointer (some ⟨γ1 2, 0, none⟩)), (5, .int .i64 0), (29, .slice o.p o.n o.cap)]) (fun _ => [bx (γ1 2) (#[.slice none 0 0]) 38, bx (γ1 1) (#[.slice q m capq]) 38, bx (γ1 0) (#[.int .i64 o.kind, .int .i64 o.a, .slice o.p o.n o.cap]) 54]) ?_ (fun hmx2 => ?_)
          ·
            rintro _ _
            refine any_fork [0, 3] (by kernel_rfl) (by simp) (each_cons _ rfl ?_ (each_cons _ rfl ?_ (each_nil)))
            ·
              refine qo0 1 [(0, .go (owns 1 0 1))] [4, 5, 29] [(27, .agg #[.slice q m capq])] ?_
              refine od_ ?_
              exact wk (hmx3 () trivial) [4, 5, 27, 29] [[_], [_], [_]] [0, 1, 2] rfl rfl
            ·
              refine cP (fun v L' => ∃ q_ n_ c_ Y_, v = .slice q_ n_ c_ ∧ L' = List.take 3 ([bx (γ1 2) (#[.slice none 0 0]) 38, bx (γ1 1) (#[.slice q m capq]) 38, bx (γ1 0) (#[.int .i64 o.kind, .int .i64 o.a, .slice o.p o.n o.cap]) 54]) ++ (Y_ ++ List.drop 3 ([bx (γ1 2) (#[.slice none 0 0]) 38, bx (γ1 1) (#[.slice q m capq]) 38, bx (γ1 0) (#[.int .i64 o.kind, .int .i64 o.a, .slice o.p o.n o.cap]) 54])) ∧ SlO 3 Y_ q_ n_ c_ (o.l.take 17)) Try.call30 (fun w hw => (ints_t o.p o.n o.cap o.l w (hso.kept hw.below) hno (by omega) (by omega)).mono fun e w' ⟨q_, n_, c_, Y_, he, hO, hb, hY⟩ => ⟨_, _, he, ⟨q_, n_, c_, Y_, rfl, rfl, hO⟩, hw.join hb hY 3⟩) ?_
              rintro v365 L365 ⟨q365, n365, c365, Y365, rfl, rfl, hO365⟩
              refine od_ ?_
              exact wk (hmx4 (Y365, c365, n365, q365) hO365) [3, 4, 5, 30] [[_], [_], [_], _] [0, 1, 2, 3] rfl rfl
          refine any_cutX (V := Unit) (fun _ => True) 10 #[true, true, false, false, false, false, false, false, false, false, false, false] (fun _ => [(4, .pointer (some ⟨γ1 2, 0, none⟩)), (5, .int .i64 0), (27, .agg #[.slice q m capq]), (28, .pointer (some ⟨γ1 0, 2, none⟩))]) (fun _ => [bx (γ1 2) (#[.slice none 0 0]) 38, bx (γ1 1) (#[.slice q m capq]) 38, bx (γ1 0) (#[.int .i64 o.kind, .int .i64 o.a, .slice o.p o.n o.cap]) 54]) ?_ (fun hmx1 => ?_)
          ·
            rintro _ _
            refine a1 2 rfl ?_
            refine qo0 1 [(2, .go (owns 2 2 1))] [4, 5, 27] [(29, .slice o.p o.n o.cap)] ?_
            refine od_ ?_
            exact wk (hmx3 () trivial) [4, 5, 27, 29] [[_], [_], [_]] [0, 1, 2] rfl rfl
          refine any_fork [0, 2] (by kernel_rfl) (by simp) (each_cons _ rfl ?_ (each_cons _ rfl ?_ (each_nil)))
          ·
            refine qo0 1 [(0, .go (owns 1 0 1))] [4, 5, 28] [(27, .agg #[.slice q m capq])] ?_
            refine od_ ?_
            exact wk (hmx1 () trivial) [4, 5, 27, 28] [[_], [_], [_]] [0, 1, 2] rfl rfl
          ·
            refine qo0 1 [(2, .go (owns 2 2 1))] [3, 4, 5] [(29, .slice o.p o.n o.cap)] ?_
            refine od_ ?_
            exact wk (hmx2 () trivial) [3, 4, 5, 29] [[_], [_], [_]] [0, 1, 2] rfl rfl
        rintro ⟨Y365, Y385, Yz385, bl385, c365, c385, er385, id385, n365, n385, q365, q385⟩ ⟨hG385, hO365, hO385, hV385⟩
        refine any_nil (by kernel_rfl) ?_
        refine done_block (ds_ (sq_ (qa0 [(0, .go (owns 0 0 1)), (3, .go (owns 0 0 1))] [4] [(5, .int .i64 id385), (6, .int .i64 er385)] (ds_ (rt (owns 0 0 1) (.tuple #[.agg #[.slice q385 n385 c385], .int .i64 id385, .int .i64 er385]) ?_)))))
        have hrun : runG (al.map GngA.val) o = (bl385.map GngA.val, id385, er385) := (run_form (by omega)).trans hV385.symm
        exact fun w' hw => by rw [hrun]; exact ⟨_, _, _, _, _, _, rfl, rfl, hO385, hG385, hw.below, two_tails14 (Hs.pick [[bx (γ1 2) (#[.slice q385 n385 c385]) 38], [bx (γ1 1) (#[.slice q m capq]) 38], [bx (γ1 0) (#[.int .i64 o.kind, .int .i64 o.a, .slice o.p o.n o.cap]) 54], Y365, Y385, Yz385] [4, 5] [0, 1, 2, 3] (by kernel_rfl) hw)⟩
      ·
        refine qa [(0, .no)] [2, 3, 4, 5, 14] [(22, .bool false)] ([¬ ((kd6 o.kind : Int) = (1 : Int))]) (al1 q300) (ds_ (f_ ?_))
        by_cases q591 : (kd6 o.kind : Int) = (2 : Int)
        ·
          refine qa [(0, .yes)] [2, 3, 4, 5, 14] [(22, .bool true)] ([(kd6 o.kind : Int) = (2 : Int)]) (al1 q591) (ds_ (t_ ?_))
          refine at_any (by kernel_rfl) ?_
          refine tk (m := 11) [1] [] [3, 4, 5] [(28, .pointer (some ⟨γ1 0, 2, none⟩))] ([]) #[false, true, false, false, false, false, false, false, false, false, false, false] al0 ?_
          refine any_cutX (V := (List Ob) × (List Ob) × (List Ob) × (List GngA) × (Nat) × (Nat) × (Int) × (Int) × (Nat) × (Nat) × (Option Addr) × (Option Addr)) (fun ⟨Y656, Y676, Yz676, bl676, c656, c676, er676, id676, n656, n676, q656, q676⟩ => GotG 3 Yz676 bl676 ∧ SlO 3 Y656 q656 n656 c656 (o.l.take 17) ∧ SlO 46 Y676 q676 n676 c676 bl676 ∧ (bl676.map GngA.val, id676, er676) = formV (al.map GngA.val) (o.l.take 17)) 0 #[true, true, true, true, true, true, true, true, true, true, true, true] (fun ⟨Y656, Y676, Yz676, bl676, c656, c676, er676, id676, n656, n676, q656, q676⟩ => [(4, .pointer (some ⟨γ1 2, 0, none⟩)), (5, .int .i64 id676), (6, .int .i64 er676)]) (fun ⟨Y656, Y676, Yz676, bl676, c656, c676, er676, id676, n656, n676, q656, q676⟩ => bx (γ1 2) (#[.slice q676 n676 c676]) 38 :: bx (γ1 1) (#[.slice q m capq]) 38 :: bx (γ1 0) (#[.int .i64 o.kind, .int .i64 o.a, .slice o.p o.n o.cap]) 54 :: (Y656 ++ (Y676 ++ (Yz676 ++ [])))) ?_ (fun hmx7 => ?_)
          rotate_left
          ·
            refine any_cutX (V := (List Ob) × (List Ob) × (List Ob) × (List GngA) × (Nat) × (Nat) × (Int) × (Int) × (Nat) × (Nat) × (Option Addr) × (Option Addr)) (fun ⟨Y656, Y676, Yz676, bl676, c656, c676, er676, id676, n656, n676, q656, q676⟩ => GotG 3 Yz676 bl676 ∧ SlO 3 Y656 q656 n656 c656 (o.l.take 17) ∧ SlO 46 Y676 q676 n676 c676 bl676 ∧ (bl676.map GngA.val, id676, er676) = formV (al.map GngA.val) (o.l.take 17)) 3 #[true, true, true, true, true, true, true, true, true, false, false, false] (fun ⟨Y656, Y676, Yz676, bl676, c656, c676, er676, id676, n656, n676, q656, q676⟩ => [(4, .pointer (some ⟨γ1 2, 0, none⟩)), (5, .int .i64 0), (32, .agg #[.slice q676 n676 c676]), (33, .int .i64 id676), (34, .int .i64 er676)]) (fun ⟨Y656, Y676, Yz676, bl676, c656, c676, er676, id676, n656, n676, q656, q676⟩ => bx (γ1 2) (#[.slice none 0 0]) 38 :: bx (γ1 1) (#[.slice q m capq]) 38 :: bx (γ1 0) (#[.int .i64 o.kind, .int .i64 o.a, .slice o.p o.n o.cap]) 54 :: (Y656 ++ (Y676 ++ (Yz676 ++ [])))) ?_ (fun hmx6 => ?_)
            ·
              rintro ⟨Y656, Y676, Yz676, bl676, c656, c676, er676, id676, n656, n676, q656, q676⟩ ⟨hG676, hO656, hO676, hV676⟩
              refine a1 9 rfl ?_
              refine mo0 1 [(9, .go (owns 0 0 1))] [4, 5, 33, 34] (fun _ => []) (fun _ L => (L.set 0 (bx (γ1 2) (#[.slice q676 n676 c676]) 38))) (fun _ => ?_)
              refine od_ ?_
              refine tk (m := 0) [10, 11] [] [4] [(5, .int .i64 id676), (6, .int .i64 er676)] ([]) #[true, true, true, true, true, true, true, true, true, true, true, true] al0 ?_
              exact wk (hmx7 (Y656, Y676, Yz676, bl676, c656, c676, er676, id676, n656, n676, q656, q676) ⟨hG676, hO656, hO676, hV676⟩) [4, 5, 6] [[_], [_], [_], _, _, _] [0, 1, 2, 3, 4, 5] rfl rfl
            refine any_cutX (V := (List Ob) × (Nat) × (Nat) × (Option Addr)) (fun ⟨Y656, c656, n656, q656⟩ => SlO 3 Y656 q656 n656 c656 (o.l.take 17)) 8 #[true, true, true, true, false, false, false, false, false, false, false, false] (fun ⟨Y656, c656, n656, q656⟩ => [(4, .pointer (some ⟨γ1 2, 0, none⟩)), (5, .int .i64 0), (27, .agg #[.slice q m capq]), (30, .slice q656 n656 c656)]) (fun ⟨Y656, c656, n656, q656⟩ => bx (γ1 2) (#[.slice none 0 0]) 38 :: bx (γ1 1) (#[.slice q m capq]) 38 :: bx (γ1 0) (#[.int .i64 o.kind, .int .i64 o.a, .slice o.p o.n o.cap]) 54 :: (Y656 ++ [])) ?_ (fun hmx5 => ?_)
            ·
              rintro ⟨Y656, c656, n656, q656⟩ hO656
              refine a1 4 rfl ?_
              refine cP (fun v L' => ∃ er q_ n_ c_ Y_ Z_ bl_ idn, v = .tuple #[.agg #[.slice q_ n_ c_], .int .i64 idn, .int .i64 er] ∧ L' = List.take 3 (bx (γ1 2) (#[.slice none 0 0]) 38 :: bx (γ1 1) (#[.slice q m capq]) 38 :: bx (γ1 0) (#[.int .i64 o.kind, .int .i64 o.a, .slice o.p o.n o.cap]) 54 :: (Y656 ++ [])) ++ (Y_ ++ (Z_ ++ List.drop 3 (bx (γ1 2) (#[.slice none 0 0]) 38 :: bx (γ1 1) (#[.slice q m capq]) 38 :: bx (γ1 0) (#[.int .i64 o.kind, .int .i64 o.a, .slice o.p o.n o.cap]) 54 :: (Y656 ++ [])))) ∧ SlO 46 Y_ q_ n_ c_ bl_ ∧ GotG 3 Z_ bl_ ∧ (bl_.map GngA.val, idn, er) = formV (al.map GngA.val) (o.l.take 17)) Try.call47 (fun w hw => (rform_t q m capq al q656 n656 c656 (o.l.take 17) w (hal.kept hw.below) hma hbm (fun x hx => (hnm x hx).kept hw.below) hm9 (hO656.atN (A := [_, _, _]) hw) (by have := hO656.len; omega) (by have := hO656.len; rw [List.length_take] at this; omega) q3).mono fun e w' ⟨er, q_, n_, c_, Y_, Z_, bl_, idn, he, hv, hO, hG, hb, hY⟩ => ⟨_, _, he, ⟨er, q_, n_, c_, Y_, Z_, bl_, idn, rfl, rfl, hO, hG, hv⟩, hs_re (hw.join hb hY 3)⟩) ?_
              rintro v676 L676 ⟨er676, q676, n676, c676, Y676, Yz676, bl676, id676, rfl, rfl, hO676, hG676, hV676⟩
              refine od_ ?_
              refine tk (m := 3) [5, 6, 7, 8] [] [4, 5] [(32, .agg #[.slice q676 n676 c676]), (33, .int .i64 id676), (34, .int .i64 er676)] ([]) #[true, true, true, true, true, true, true, true, true, false, false, false] al0 ?_
              exact wk (hmx6 (Y656, Y676, Yz676, bl676, c656, c676, er676, id676, n656, n676, q656, q676) ⟨hG676, hO656, hO676, hV676⟩) [4, 5, 32, 33, 34] [[_], [_], [_], _, _, _] [0, 1, 2, 5, 3, 4] rfl rfl
            refine any_cutX (V := (List Ob) × (Nat) × (Nat) × (Option Addr)) (fun ⟨Y656, c656, n656, q656⟩ => SlO 3 Y656 q656 n656 c656 (o.l.take 17)) 9 #[false, true, true, true, false, false, false, false, false, false, false, false] (fun ⟨Y656, c656, n656, q656⟩ => [(3, .pointer (some ⟨γ1 1, 0, none⟩)), (4, .pointer (some ⟨γ1 2, 0, none⟩)), (5, .int .i64 0), (30, .slice q656 n656 c656)]) (fun ⟨Y656, c656, n656, q656⟩ => bx (γ1 2) (#[.slice none 0 0]) 38 :: bx (γ1 1) (#[.slice q m capq]) 38 :: bx (γ1 0) (#[.int .i64 o.kind, .int .i64 o.a, .slice o.p o.n o.cap]) 54 :: (Y656 ++ [])) ?_ (fun hmx4 => ?_)
            ·
              rintro ⟨Y656, c656, n656, q656⟩ hO656
              refine a1 0 rfl ?_
              refine qo0 1 [(0, .go (owns 1 0 1))] [4, 5, 30] [(27, .agg #[.slice q m capq])] ?_
              refine od_ ?_
              exact wk (hmx5 (Y656, c656, n656, q656) hO656) [4, 5, 27, 30] [[_], [_], [_], _] [0, 1, 2, 3] rfl rfl
            refine any_cutX (V := Unit) (fun _ => True) 9 #[true, true, true, false, false, false, false, false, false, false, false, false] (fun _ => [(4, .pointer (some ⟨γ1 2, 0, none⟩)), (5, .int .i64 0), (27, .agg #[.slice q m capq]), (29, .slice o.p o.n o.cap)]) (fun _ => [bx (γ1 2) (#[.slice none 0 0]) 38, bx (γ1 1) (#[.slice q m capq]) 38, bx (γ1 0) (#[.int .i64 o.kind, .int .i64 o.a, .slice o.p o.n o.cap]) 54]) ?_ (fun hmx3 => ?_)
            ·
              rintro _ _
              refine a1 3 rfl ?_
              refine cP (fun v L' => ∃ q_ n_ c_ Y_, v = .slice q_ n_ c_ ∧ L' = List.take 3 ([bx (γ1 2) (#[.slice none 0 0]) 38, bx (γ1 1) (#[.slice q m capq]) 38, bx (γ1 0) (#[.int .i64 o.kind, .int .i64 o.a, .slice o.p o.n o.cap]) 54]) ++ (Y_ ++ List.drop 3 ([bx (γ1 2) (#[.slice none 0 0]) 38, bx (γ1 1) (#[.slice q m capq]) 38, bx (γ1 0) (#[.int .i64 o.kind, .int .i64 o.a, .slice o.p o.n o.cap]) 54])) ∧ SlO 3 Y_ q_ n_ c_ (o.l.take 17)) Try.call30 (fun w hw => (ints_t o.p o.n o.cap o.l w (hso.kept hw.below) hno (by omega) (by omega)).mono fun e w' ⟨q_, n_, c_, Y_, he, hO, hb, hY⟩ => ⟨_, _, he, ⟨q_, n_, c_, Y_, rfl, rfl, hO⟩, hw.join hb hY 3⟩) ?_
              rintro v656 L656 ⟨q656, n656, c656, Y656, rfl, rfl, hO656⟩
              refine od_ ?_
              exact wk (hmx5 (Y656, c656, n656, q656) hO656) [4, 5, 27, 30] [[_], [_], [_], _] [0, 1, 2, 3] rfl rfl
            refine any_cutX (V := Unit) (fun _ => True) 10 #[false, true, true, false, false, false, false, false, false, false, false, false] (fun _ => [(3, .pointer (some ⟨γ1 1, 0, none⟩)), (4, .pointer (some ⟨γ1 2, 0, none⟩)), (5, .int .i64 0), (29, .slice o.p o.n o.cap)]) (fun _ => [bx (γ1 2) (#[.slice none 0 0]) 38, bx (γ1 1) (#[.slice q m capq]) 38, bx (γ1 0) (#[.int .i64 o.kind, .int .i64 o.a, .slice o.p o.n o.cap]) 54]) ?_ (fun hmx2 => ?_)
            ·
              rintro _ _
              refine any_fork [0, 3] (by kernel_rfl) (by simp) (each_cons _ rfl ?_ (each_cons _ rfl ?_ (each_nil)))
              ·
                refine qo0 1 [(0, .go (owns 1 0 1))] [4, 5, 29] [(27, .agg #[.slice q m capq])] ?_
                refine od_ ?_
                exact wk (hmx3 () trivial) [4, 5, 27, 29] [[_], [_], [_]] [0, 1, 2] rfl rfl
              ·
                refine cP (fun v L' => ∃ q_ n_ c_ Y_, v = .slice q_ n_ c_ ∧ L' = List.take 3 ([bx (γ1 2) (#[.slice none 0 0]) 38, bx (γ1 1) (#[.slice q m capq]) 38, bx (γ1 0) (#[.int .i64 o.kind, .int .i64 o.a, .slice o.p o.n o.cap]) 54]) ++ (Y_ ++ List.drop 3 ([bx (γ1 2) (#[.slice none 0 0]) 38, bx (γ1 1) (#[.slice q m capq]) 38, bx (γ1 0) (#[.int .i64 o.kind, .int .i64 o.a, .slice o.p o.n o.cap]) 54])) ∧ SlO 3 Y_ q_ n_ c_ (o.l.take 17)) Try.call30 (fun w hw => (ints_t o.p o.n o.cap o.l w (hso.kept hw.below) hno (by omega) (by omega)).mono fun e w' ⟨q_, n_, c_, Y_, he, hO, hb, hY⟩ => ⟨_, _, he, ⟨q_, n_, c_, Y_, rfl, rfl, hO⟩, hw.join hb hY 3⟩) ?_
                rintro v656 L656 ⟨q656, n656, c656, Y656, rfl, rfl, hO656⟩
                refine od_ ?_
                exact wk (hmx4 (Y656, c656, n656, q656) hO656) [3, 4, 5, 30] [[_], [_], [_], _] [0, 1, 2, 3] rfl rfl
            refine any_cutX (V := Unit) (fun _ => True) 10 #[true, true, false, false, false, false, false, false, false, false, false, false] (fun _ => [(4, .pointer (some ⟨γ1 2, 0, none⟩)), (5, .int .i64 0), (27, .agg #[.slice q m capq]), (28, .pointer (some ⟨γ1 0, 2, none⟩))]) (fun _ => [bx (γ1 2) (#[.slice none 0 0]) 38, bx (γ1 1) (#[.slice q m capq]) 38, bx (γ1 0) (#[.int .i64 o.kind, .int .i64 o.a, .slice o.p o.n o.cap]) 54]) ?_ (fun hmx1 => ?_)
            ·
              rintro _ _
              refine a1 2 rfl ?_
              refine qo0 1 [(2, .go (owns 2 2 1))] [4, 5, 27] [(29, .slice o.p o.n o.cap)] ?_
              refine od_ ?_
              exact wk (hmx3 () trivial) [4, 5, 27, 29] [[_], [_], [_]] [0, 1, 2] rfl rfl
            refine any_fork [0, 2] (by kernel_rfl) (by simp) (each_cons _ rfl ?_ (each_cons _ rfl ?_ (each_nil)))
            ·
              refine qo0 1 [(0, .go (owns 1 0 1))] [4, 5, 28] [(27, .agg #[.slice q m capq])] ?_
              refine od_ ?_
              exact wk (hmx1 () trivial) [4, 5, 27, 28] [[_], [_], [_]] [0, 1, 2] rfl rfl
            ·
              refine qo0 1 [(2, .go (owns 2 2 1))] [3, 4, 5] [(29, .slice o.p o.n o.cap)] ?_
              refine od_ ?_
              exact wk (hmx2 () trivial) [3, 4, 5, 29] [[_], [_], [_]] [0, 1, 2] rfl rfl
          rintro ⟨Y656, Y676, Yz676, bl676, c656, c676, er676, id676, n656, n676, q656, q676⟩ ⟨hG676, hO656, hO676, hV676⟩
          refine any_nil (by kernel_rfl) ?_
          refine done_block (ds_ (sq_ (qa0 [(0, .go (owns 0 0 1)), (3, .go (owns 0 0 1))] [4] [(5, .int .i64 id676), (6, .int .i64 er676)] (ds_ (rt (owns 0 0 1) (.tuple #[.agg #[.slice q676 n676 c676], .int .i64 id676, .int .i64 er676]) ?_)))))
          have hrun : runG (al.map GngA.val) o = (bl676.map GngA.val, id676, er676) := (run_form (by omega)).trans hV676.symm
          exact fun w' hw => by rw [hrun]; exact ⟨_, _, _, _, _, _, rfl, rfl, hO676, hG676, hw.below, two_tails14 (Hs.pick [[bx (γ1 2) (#[.slice q676 n676 c676]) 38], [bx (γ1 1) (#[.slice q m capq]) 38], [bx (γ1 0) (#[.int .i64 o.kind, .int .i64 o.a, .slice o.p o.n o.cap]) 54], Y656, Y676, Yz676] [4, 5] [0, 1, 2, 3] (by kernel_rfl) hw)⟩
        ·
          refine qa [(0, .no)] [2, 3, 4, 5, 14] [(22, .bool false)] ([¬ ((kd6 o.kind : Int) = (2 : Int))]) (al1 q591) (ds_ (f_ (sq_ ?_)))
          by_cases q882 : (kd6 o.kind : Int) = (3 : Int)
          ·
            refine qa [(0, .yes)] [2, 3, 4, 5] [(35, .bool true)] ([(kd6 o.kind : Int) = (3 : Int)]) (al1 q882) (ds_ (t_ (ao_ (qo0 3 [(0, .go (owns 1 0 1)), (2, .go (owns 2 1 1))] [4, 5] [(38, .agg #[.slice q m capq]), (40, .int .i64 o.a)] (cP (fun v L' => ∃ er q_ n_ c_ Y_ Z_ bl_, v = .tuple #[.agg #[.slice q_ n_ c_], .int .i64 er] ∧ L' = List.take 3 ([bx (γ1 2) (#[.slice none 0 0]) 38, bx (γ1 1) (#[.slice q m capq]) 38, bx (γ1 0) (#[.int .i64 o.kind, .int .i64 o.a, .slice o.p o.n o.cap]) 54]) ++ (Y_ ++ (Z_ ++ List.drop 3 ([bx (γ1 2) (#[.slice none 0 0]) 38, bx (γ1 1) (#[.slice q m capq]) 38, bx (γ1 0) (#[.int .i64 o.kind, .int .i64 o.a, .slice o.p o.n o.cap]) 54]))) ∧ SlO 46 Y_ q_ n_ c_ bl_ ∧ GotG 3 Z_ bl_ ∧ (bl_.map GngA.val, er) = movG (al.map GngA.val) (partC (al.map GngA.val) o.a)) Try.call48 (fun w hw => (rpart_t q m capq al o.a w (hal.kept hw.below) hma hbm (fun x hx => (hnm x hx).kept hw.below) hm9 q3).mono fun e w' ⟨er, q_, n_, c_, Y_, Z_, bl_, he, hv, hO, hG, hb, hY⟩ => ⟨_, _, he, ⟨er, q_, n_, c_, Y_, Z_, bl_, rfl, rfl, hO, hG, hv⟩, hs_re (hw.join hb hY 3)⟩) ?_)))))
            rintro v885 L885 ⟨er885, q885, n885, c885, Y885, Yz885, bl885, rfl, rfl, hO885, hG885, hV885⟩
            refine mo0 5 [(7, .go (owns 0 0 1))] [4, 5] (fun _ => [(6, .int .i64 er885)]) (fun _ L => (L.set 0 (bx (γ1 2) (#[.slice q885 n885 c885]) 38))) (fun _ => on_ (done_block (ds_ (sq_ (qa0 [(0, .go (owns 0 0 1)), (3, .go (owns 0 0 1))] [4] [(5, .int .i64 0), (6, .int .i64 er885)] (ds_ (rt (owns 0 0 1) (.tuple #[.agg #[.slice q885 n885 c885], .int .i64 0, .int .i64 er885]) ?_)))))))
            have hrun : runG (al.map GngA.val) o = (bl885.map GngA.val, 0, er885) := (run_part (by omega)).trans (by rw [← hV885])
            exact fun w' hw => by rw [hrun]; exact ⟨_, _, _, _, _, _, rfl, rfl, hO885, hG885, hw.below, two_tails14 (Hs.pick [[bx (γ1 2) (#[.slice q885 n885 c885]) 38], [bx (γ1 1) (#[.slice q m capq]) 38], [bx (γ1 0) (#[.int .i64 o.kind, .int .i64 o.a, .slice o.p o.n o.cap]) 54], Y885, Yz885] [3, 4] [0, 1, 2] (by kernel_rfl) hw)⟩
          ·
            refine qa [(0, .no)] [2, 3, 4, 5] [(35, .bool false)] ([¬ ((kd6 o.kind : Int) = (3 : Int))]) (al1 q882) (ds_ (f_ (ao_ (qo0 3 [(0, .go (owns 1 0 1)), (2, .go (owns 2 1 1))] [4, 5] [(16, .agg #[.slice q m capq]), (18, .int .i64 o.a)] (cP (fun v L' => ∃ er q_ n_ c_ Y_ Z_ bl_, v = .tuple #[.agg #[.slice q_ n_ c_], .int .i64 er] ∧ L' = List.take 3 ([bx (γ1 2) (#[.slice none 0 0]) 38, bx (γ1 1) (#[.slice q m capq]) 38, bx (γ1 0) (#[.int .i64 o.kind, .int .i64 o.a, .slice o.p o.n o.cap]) 54]) ++ (Y_ ++ (Z_ ++ List.drop 3 ([bx (γ1 2) (#[.slice none 0 0]) 38, bx (γ1 1) (#[.slice q m capq]) 38, bx (γ1 0) (#[.int .i64 o.kind, .int .i64 o.a, .slice o.p o.n o.cap]) 54]))) ∧ SlO 46 Y_ q_ n_ c_ bl_ ∧ GotG 3 Z_ bl_ ∧ (bl_.map GngA.val, er) = movG (al.map GngA.val) (leaveC (al.map GngA.val) o.a)) Try.call49 (fun w hw => (rleave_t q m capq al o.a w (hal.kept hw.below) hma hbm (fun x hx => (hnm x hx).kept hw.below) hm9 q3).mono fun e w' ⟨er, q_, n_, c_, Y_, Z_, bl_, he, hv, hO, hG, hb, hY⟩ => ⟨_, _, he, ⟨er, q_, n_, c_, Y_, Z_, bl_, rfl, rfl, hO, hG, hv⟩, hs_re (hw.join hb hY 3)⟩) ?_)))))
            rintro v890 L890 ⟨er890, q890, n890, c890, Y890, Yz890, bl890, rfl, rfl, hO890, hG890, hV890⟩
            refine mo0 5 [(7, .go (owns 0 0 1))] [4, 5] (fun _ => [(6, .int .i64 er890)]) (fun _ L => (L.set 0 (bx (γ1 2) (#[.slice q890 n890 c890]) 38))) (fun _ => on_ (done_block (ds_ (sq_ (qa0 [(0, .go (owns 0 0 1)), (3, .go (owns 0 0 1))] [4] [(5, .int .i64 0), (6, .int .i64 er890)] (ds_ (rt (owns 0 0 1) (.tuple #[.agg #[.slice q890 n890 c890], .int .i64 0, .int .i64 er890]) ?_)))))))
            have hrun : runG (al.map GngA.val) o = (bl890.map GngA.val, 0, er890) := (run_leave (by omega) (by omega)).trans (by rw [← hV890])
            exact fun w' hw => by rw [hrun]; exact ⟨_, _, _, _, _, _, rfl, rfl, hO890, hG890, hw.below, two_tails14 (Hs.pick [[bx (γ1 2) (#[.slice q890 n890 c890]) 38], [bx (γ1 1) (#[.slice q m capq]) 38], [bx (γ1 0) (#[.int .i64 o.kind, .int .i64 o.a, .slice o.p o.n o.cap]) 54], Y890, Yz890] [3, 4] [0, 1, 2] (by kernel_rfl) hw)⟩
end Go.Proofs.Ytahccegfahghfaa

/-! The statement GangDoes, walked. -/
namespace Go.Proofs.Ytahccegfahghfaa
open Go Go.RowKit
abbrev SmallV (V : Gs) : Prop := V.length ≤ 9 ∧ ∀ g ∈ V, g.2.length ≤ 17
theorem small_facts {T : TypeId} {Yi : List Ob} {bl : List GngA} (hG : GotG T Yi bl) (hS : SmallV (bl.map GngA.val)) : bl.length ≤ 9 ∧ ∀ x ∈ bl, x.n ≤ 1000 := short_facts (gs := bl.map GngA.val) hG (short_same hS).symm
theorem run_small {gs : Gs} {o : OpG} : SmallV (runG gs o).1 := by
  by_cases h : (runG gs o).2.2 = 0
  · exact gang_small (run_gang h)
  · have h2 : (runG gs o).1 = [] := by
      unfold runG at h ⊢
      split
      · rename_i e
        rw [if_pos e] at h
        unfold formV at h ⊢
        split
        · rfl
        · rename_i e2
          rw [if_neg e2] at h
          split
          · rename_i e3; rw [if_pos e3] at h; exact absurd e3 h
          · rfl
      · rename_i e
        rw [if_neg e] at h
        split
        · rename_i e3; rw [if_pos e3] at h; exact mov_bad h
        · rename_i e3; rw [if_neg e3] at h; exact mov_bad h
    rw [h2]; exact ⟨by decide, fun g hg => nomatch hg⟩
theorem flat_same {lh : List GngA} {x y : GngA} {k : Nat} (hx : lh[k]? = some x) (e : Enc.enc y = Enc.enc x) : (lh.set k y).flatMap Enc.enc = lh.flatMap Enc.enc := by
  have h1 : (lh.set k y).map Enc.enc = lh.map (Enc.enc (α := GngA)) := by
    rw [List.map_set, e]
    apply List.ext_getElem?
    intro i
    by_cases hi : k = i
    · subst hi
      rw [List.getElem?_set_self (by rw [List.length_map]; exact (List.getElem?_eq_some_iff.1 hx).1), List.getElem?_map, hx]; rfl
    · rw [List.getElem?_set_ne hi]
  rw [List.flatMap_def, List.flatMap_def, h1]
theorem SlO.retag {T : TypeId} {Y : List Ob} {p : Option Addr} {n cap : Nat} {lh : List GngA} {x y : GngA} {k : Nat} (h : SlO T Y p n cap lh) (hx : lh[k]? = some x) (e : Enc.enc y = Enc.enc x) : SlO T Y p n cap (lh.set k y) := by
  rcases h with ⟨_, _, _, _, rfl⟩ | ⟨g, cs, h1, h2, h3, h4⟩
  · simp at hx
  · exact .inr ⟨g, cs, h1, h2, by rw [List.length_set]; exact h3, by rw [flat_same hx e]; exact h4⟩
set_option maxHeartbeats 1000000 in

set_option maxRecDepth 100000 in
theorem does_law (q : Option Addr) (m capq : Nat) (al : List GngA) (po : Option Addr) (no co : Nat) (ol : List OpG) (w : World)
    (hal : Sv w q al) (hma : m = al.length) (hbm : m ≤ 9223372036854775807) (hnm : ∀ x ∈ al, x.Reads w)
    (hol : Sv w po ol) (hno : no = ol.length) (hco : no ≤ co) (hbo : co ≤ 9223372036854775807) (hnmo : ∀ x ∈ ol, x.Reads w)
    : Calls Try.prog 6 #[.agg #[.slice q m capq], .slice po no co] w fun e w' => e = .returned (.bool true) ∧ Below w.heap.size w w' := by
  refine enter (Hs.start w) Try.func6 rfl Try.ntmps6 rfl (sq_ (ma0 [] [1] (fun γ1 => [(2, .pointer (some ⟨γ1 0, 0, none⟩))]) (fun γ1 L => bx (γ1 0) (#[.slice q m capq]) 38 :: L) (fun γ1 => ds_ (sq_ (sq_ (ao_ (cD (.bool true) Try.call9 (fun w hw => wakes_t w) (qo0 1 [] [1, 2] [(18, .bool false)] (on_ (ds_ (f_ (at_skip (ds_ (sq_ (ao_ (qo0 1 [(0, .go (owns 0 0 1))] [1] [(19, .agg #[.slice q m capq])] (cP (fun v L' => ∃ q_ n_ c_ Y_ Z_ bl_, v = .agg #[.slice q_ n_ c_] ∧ L' = List.take 1 ([bx (γ1 0) (#[.slice q m capq]) 38]) ++ (Y_ ++ (Z_ ++ List.drop 1 ([bx (γ1 0) (#[.slice q m capq]) 38]))) ∧ SlO 46 Y_ q_ n_ c_ bl_ ∧ GotG 3 Z_ bl_ ∧ bl_.map GngA.val = shortV (al.map GngA.val)) Try.call16 (fun w hw => (short_t q m capq al w (hal.kept hw.below) hma (by omega) (fun y hy => (hnm y hy).kept hw.below)).mono fun e w' ⟨q_, n_, c_, Y_, bl_, Z_, he, hO, hG, hB, hb, hY⟩ => ⟨_, _, he, ⟨q_, n_, c_, Y_, Z_, bl_, rfl, rfl, hO, hG, hB⟩, hs_re (hw.join hb hY 1)⟩) ?_)))))))))))))))))
  rintro v5 L5 ⟨q5, n5, c5, Y5, Yz5, bl5, rfl, rfl, hO5, hG5, hB5⟩
  have hf5 := short_facts hG5 hB5
  refine mo0 2 [(3, .go (owns 0 0 1))] [1] (fun γ6 => [(5, .pointer (some ⟨γ6 0, 0, none⟩))]) (fun γ6 L => bx (γ6 0) (#[.slice q5 n5 c5]) 38 :: L) (fun γ6 => on_ (ds_ (sq_ (sq_ (qa0 [] [5] [(21, .slice po no co), (22, .int .i64 (no : Nat)), (23, .int .i64 0)] (ds_ (at_block (At.pick [[bx (γ6 0) (#[.slice q5 n5 c5]) 38], [bx (γ1 0) (#[.slice q m capq]) 38], Y5, Yz5] [0, 2, 3] [1] (bx (γ6 0) (#[.slice q5 n5 c5]) 38 :: (Y5 ++ (Yz5 ++ []))) (by kernel_rfl) rfl rfl (at_loop (α := Nat × List GngA × List Ob × Option Addr × Nat × Nat × List Ob) [5, 21, 22, 23] (fun ⟨j, bl0, Y0, q0, n0, c0, Yz0⟩ => [(5, .pointer (some ⟨γ6 0, 0, none⟩)), (21, .slice po no co), (22, .int .i64 (no : Nat)), (23, .int .i64 (j : Nat))]) (fun ⟨j, bl0, Y0, q0, n0, c0, Yz0⟩ => bx (γ6 0) (#[.slice q0 n0 c0]) 38 :: (Y0 ++ (Yz0 ++ []))) (fun ⟨j, bl0, Y0, q0, n0, c0, Yz0⟩ => j ≤ no ∧ SlO 46 Y0 q0 n0 c0 bl0 ∧ GotG 3 Yz0 bl0 ∧ SmallV (bl0.map GngA.val)) (fun ⟨j, bl0, Y0, q0, n0, c0, Yz0⟩ => no - j) (0, bl5, Y5, q5, n5, c5, Yz5) (by kernel_rfl) rfl ⟨Nat.zero_le _, hO5, hG5, by rw [hB5]; exact short_small⟩ ?_)))))))))
  rintro ⟨j, bl0, Y0, q0, n0, c0, Yz0⟩
  rintro ⟨hj, hO0, hG0, hS0⟩
  have hf0 := small_facts hG0 hS0
  have hl0 := hO0.len
  refine sq_ ?_
  by_cases q9 : ((j : Nat) : Int) < ((no : Nat) : Int)
  ·
    refine qa [(0, .yes)] [5, 21, 22, 23] [(24, .bool true)] ([((j : Nat) : Int) < ((no : Nat) : Int)]) (al1 q9) (ds_ (sq_ (t_ (at_skip (ds_ (sq_ (at_block (sq_ ?_))))))))
    obtain ⟨b12, o12, rfl⟩ := hol.pos (i := j) (by omega)
    obtain ⟨x14, hx14⟩ := get_some (l := ol) (m := j) (by omega)
    have hrx14 := hnmo x14 (List.mem_of_getElem? hx14)
    have hsx14 : Sv w x14.p x14.l := hrx14.sv
    have hnx14 : x14.n = x14.l.length := hrx14.hn
    have hcx14 : x14.n ≤ x14.cap := hrx14.hc
    have hbx14 : x14.cap ≤ 9223372036854775807 := hrx14.hb
    refine ma [(1, .at b12 o12 j), (2, .go (outs b12 (o12 + j * 3) [.int .i64 x14.kind, .int .i64 x14.a, .slice x14.p x14.n x14.cap])), (5, .go (owns 0 0 3))] [5, 21, 22, 23] (fun γ15 => [(6, .int .i64 (j : Nat)), (7, .pointer (some ⟨γ15 0, 0, none⟩))]) (fun γ15 L => bx (γ15 0) (#[.int .i64 x14.kind, .int .i64 x14.a, .slice x14.p x14.n x14.cap]) 54 :: L) (fun γ15 => [(some ⟨b12, o12, none⟩ : Option Addr) = some ⟨b12, o12, none⟩, (j : Nat) = ((j : Nat) : Int), j < no] ++ (cellsP w b12 (o12 + j * 3) [.int .i64 x14.kind, .int .i64 x14.a, .slice x14.p x14.n x14.cap])) (fun γ15 => (alA (al2 rfl (al2 rfl (al1 (by omega)))) (rd_pre (hol.get hx14) _ rfl))) (fun γ15 => ds_ (sq_ (sq_ ?_)))
    by_cases q17 : ((j : Nat) : Int) = (30 : Int)
    ·
      refine qa [(1, .yes)] [5, 7, 21, 22, 23] [(29, .bool true)] ([((j : Nat) : Int) = (30 : Int)]) (al1 q17) (ds_ (t_ (at_leave _ rfl (ds_ (sq_ (qa0 [] [] [(4, .bool true)] (ds_ (rt ([]) (.bool true) ?_))))))))
      exact fun w' hw => ⟨rfl, hw.below⟩
    ·
      refine qa [(1, .no)] [5, 7, 21, 22, 23] [(29, .bool false)] ([¬ (((j : Nat) : Int) = (30 : Int))]) (al1 q17) (ds_ (f_ (at_skip (ds_ (sq_ (ao_ (qo0 1 [(0, .go (owns 1 0 1))] [5, 7, 21, 22, 23] [(30, .agg #[.slice q0 n0 c0])] (cP (fun v L' => ∃ q_ n_ c_ Y_ Z_ bl_, v = .agg #[.slice q_ n_ c_] ∧ L' = List.take 2 (bx (γ15 0) (#[.int .i64 x14.kind, .int .i64 x14.a, .slice x14.p x14.n x14.cap]) 54 :: bx (γ6 0) (#[.slice q0 n0 c0]) 38 :: (Y0 ++ (Yz0 ++ []))) ++ (Y_ ++ (Z_ ++ List.drop 2 (bx (γ15 0) (#[.int .i64 x14.kind, .int .i64 x14.a, .slice x14.p x14.n x14.cap]) 54 :: bx (γ6 0) (#[.slice q0 n0 c0]) 38 :: (Y0 ++ (Yz0 ++ []))))) ∧ SlO 46 Y_ q_ n_ c_ bl_ ∧ GotG 3 Z_ bl_ ∧ bl_.map GngA.val = shortV (bl0.map GngA.val)) Try.call16 (fun w hw => (short_t q0 n0 c0 bl0 w (SlO.sub hO0 hw (List.Sublist.cons _ (List.Sublist.cons _ (List.sublist_append_left Y0 _)))) hO0.len (by have := hO0.len; have := hf0.1; omega) (GotG.reads hG0 hw (List.Sublist.cons _ (List.Sublist.cons _ (List.Sublist.trans (List.sublist_append_left Yz0 _) (List.sublist_append_right Y0 _)))))).mono fun e w' ⟨q_, n_, c_, Y_, bl_, Z_, he, hO, hG, hB, hb, hY⟩ => ⟨_, _, he, ⟨q_, n_, c_, Y_, Z_, bl_, rfl, rfl, hO, hG, hB⟩, hs_re (hw.join hb hY 2)⟩) ?_))))))))
      rintro v22 L22 ⟨q22, n22, c22, Y22, Yz22, bl22, rfl, rfl, hO22, hG22, hB22⟩
      have hf22 := short_facts hG22 hB22
      have hE22 : bl22.map GngA.val = bl0.map GngA.val := (hB22.trans (short_same hS0))
      refine mo0 2 [(3, .go (owns 0 0 1))] [5, 7, 21, 22, 23] (fun γ23 => [(8, .pointer (some ⟨γ23 0, 0, none⟩))]) (fun γ23 L => bx (γ23 0) (#[.slice q22 n22 c22]) 38 :: L) (fun γ23 => on_ (ds_ (sq_ (ao_ (qo0 2 [(0, .go (owns 1 0 3)), (1, .go (owns 2 0 1))] [5, 7, 8, 21, 22, 23] [(33, .agg #[.int .i64 x14.kind, .int .i64 x14.a, .slice x14.p x14.n x14.cap]), (34, .agg #[.slice q0 n0 c0])] (cP (fun v L' => ∃ q_ n_ c_ Y_ Z_ bl_, v = .tuple #[.agg #[.slice q_ n_ c_], .int .i64 (runG (bl0.map GngA.val) x14).2.1, .int .i64 (runG (bl0.map GngA.val) x14).2.2] ∧ L' = List.take 3 (bx (γ23 0) (#[.slice q22 n22 c22]) 38 :: bx (γ15 0) (#[.int .i64 x14.kind, .int .i64 x14.a, .slice x14.p x14.n x14.cap]) 54 :: bx (γ6 0) (#[.slice q0 n0 c0]) 38 :: (Y22 ++ (Yz22 ++ (Y0 ++ (Yz0 ++ []))))) ++ (Y_ ++ (Z_ ++ List.drop 3 (bx (γ23 0) (#[.slice q22 n22 c22]) 38 :: bx (γ15 0) (#[.int .i64 x14.kind, .int .i64 x14.a, .slice x14.p x14.n x14.cap]) 54 :: bx (γ6 0) (#[.slice q0 n0 c0]) 38 :: (Y22 ++ (Yz22 ++ (Y0 ++ (Yz0 ++ []))))))) ∧ SlO 46 Y_ q_ n_ c_ bl_ ∧ GotG 3 Z_ bl_ ∧ bl_.map GngA.val = (runG (bl0.map GngA.val) x14).1) Try.call26 (fun w hw => (run_t14 x14 q0 n0 c0 bl0 w (SlO.sub hO0 hw (List.Sublist.cons _ (List.Sublist.cons _ (List.Sublist.cons _ (List.Sublist.trans (List.Sublist.trans (List.sublist_append_left Y0 _) (List.sublist_append_right Yz22 _)) (List.sublist_append_right Y22 _)))))) hO0.len (by have := hO0.len; have := hf0.1; omega) (GotG.reads hG0 hw (List.Sublist.cons _ (List.Sublist.cons _ (List.Sublist.cons _ (List.Sublist.trans (List.Sublist.trans (List.Sublist.trans (List.sublist_append_left Yz0 _) (List.sublist_append_right Y0 _)) (List.sublist_append_right Yz22 _)) (List.sublist_append_right Y22 _)))))) hf0.2 (hsx14.kept hw.below) hnx14 hcx14 hbx14).mono fun e w' ⟨q_, n_, c_, Y_, Z_, bl_, he, hB, hO, hG, hb, hY⟩ => by exact ⟨_, _, he, ⟨q_, n_, c_, Y_, Z_, bl_, rfl, rfl, hO, hG, hB⟩, hs_re (hw.join hb hY 3)⟩) ?_))))))
      rintro v25 L25 ⟨q25, n25, c25, Y25, Yz25, bl25, rfl, rfl, hO25, hG25, hB25⟩
      refine mo0 8 [(8, .go (owns 0 0 1))] [5, 7, 8, 21, 22, 23] (fun γ26 => [(9, .pointer (some ⟨γ26 0, 0, none⟩)), (10, .int .i64 ((runG (bl0.map GngA.val) x14).2.1)), (11, .int .i64 ((runG (bl0.map GngA.val) x14).2.2))]) (fun γ26 L => bx (γ26 0) (#[.slice q25 n25 c25]) 38 :: L) (fun γ26 => on_ (ds_ (sq_ ?_)))
      refine at_any (by kernel_rfl) ?_
      refine any_cutX (V := (List Ob) × (List Ob) × (List Ob) × (List Ob) × (List GngA) × (List GngA) × (Nat) × (Nat) × (Nat) × (Nat) × (Option Addr) × (Option Addr) × (Nat → Nat)) (fun ⟨Y69, Y89, Yz69, Yz89, bl69, bl89, c69, c89, n69, n89, q69, q89, γ189⟩ => bl69.map GngA.val = shortV (bl22.map GngA.val) ∧ bl89.map GngA.val = (runG (bl0.map GngA.val) x14).1 ∧ bl69.map GngA.val = bl0.map GngA.val ∧ GotG 3 Yz69 bl69 ∧ GotG 3 Yz89 bl89 ∧ SlO 46 Y69 q69 n69 c69 bl69 ∧ SlO 46 Y89 q89 n89 c89 bl89 ∧ (bl69.length ≤ 9 ∧ ∀ x ∈ bl69, x.n ≤ 1000)) 0 #[true, true, true, true, true, true, true, true, true, true, true, true] (fun ⟨Y69, Y89, Yz69, Yz89, bl69, bl89, c69, c89, n69, n89, q69, q89, γ189⟩ => [(5, .pointer (some ⟨γ6 0, 0, none⟩)), (8, .pointer (some ⟨γ23 0, 0, none⟩)), (9, .pointer (some ⟨γ26 0, 0, none⟩)), (10, .int .i64 ((runG (bl0.map GngA.val) x14).2.1)), (11, .int .i64 ((runG (bl0.map GngA.val) x14).2.2)), (12, .pointer (some ⟨γ189 0, 0, none⟩)), (13, .int .i64 ((runG (bl0.map GngA.val) x14).2.1)), (14, .int .i64 ((runG (bl0.map GngA.val) x14).2.2)), (21, .slice (some ⟨b12, o12, none⟩) no co), (22, .int .i64 (no : Nat)), (23, .int .i64 (j : Nat))]) (fun ⟨Y69, Y89, Yz69, Yz89, bl69, bl89, c69, c89, n69, n89, q69, q89, γ189⟩ => bx (γ189 0) (#[.slice q89 n89 c89]) 38 :: bx (γ26 0) (#[.slice q25 n25 c25]) 38 :: bx (γ23 0) (#[.slice q22 n22 c22]) 38 :: bx (γ15 0) (#[.int .i64 x14.kind, .int .i64 x14.a, .slice x14.p x14.n x14.cap]) 54 :: bx (γ6 0) (#[.slice q0 n0 c0]) 38 :: (Y69 ++ (Y89 ++ (Yz69 ++ (Yz89 ++ (Y25 ++ (Yz25 ++ (Y22 ++ (Yz22 ++ (Y0 ++ (Yz0 ++ []))))))))))) ?_ (fun hmx14 => ?_)
      rotate_left
      ·
        refine any_cutX (V := (List Ob) × (List Ob) × (List Ob) × (List Ob) × (List GngA) × (List GngA) × (Nat) × (Nat) × (Nat) × (Nat) × (Option Addr) × (Option Addr) × (Nat → Nat)) (fun ⟨Y69, Y89, Yz69, Yz89, bl69, bl89, c69, c89, n69, n89, q69, q89, γ189⟩ => bl69.map GngA.val = shortV (bl22.map GngA.val) ∧ bl89.map GngA.val = (runG (bl0.map GngA.val) x14).1 ∧ bl69.map GngA.val = bl0.map GngA.val ∧ GotG 3 Yz69 bl69 ∧ GotG 3 Yz89 bl89 ∧ SlO 46 Y69 q69 n69 c69 bl69 ∧ SlO 46 Y89 q89 n89 c89 bl89 ∧ (bl69.length ≤ 9 ∧ ∀ x ∈ bl69, x.n ≤ 1000)) 3 #[true, true, true, true, true, true, true, true, true, false, false, false] (fun ⟨Y69, Y89, Yz69, Yz89, bl69, bl89, c69, c89, n69, n89, q69, q89, γ189⟩ => [(5, .pointer (some ⟨γ6 0, 0, none⟩)), (8, .pointer (some ⟨γ23 0, 0, none⟩)), (9, .pointer (some ⟨γ26 0, 0, none⟩)), (10, .int .i64 ((runG (bl0.map GngA.val) x14).2.1)), (11, .int .i64 ((runG (bl0.map GngA.val) x14).2.2)), (12, .pointer (some ⟨γ189 0, 0, none⟩)), (21, .slice (some ⟨b12, o12, none⟩) no co), (22, .int .i64 (no : Nat)), (23, .int .i64 (j : Nat)), (44, .agg #[.slice q89 n89 c89]), (45, .int .i64 ((runG (bl0.map GngA.val) x14).2.1)), (46, .int .i64 ((runG (bl0.map GngA.val) x14).2.2))]) (fun ⟨Y69, Y89, Yz69, Yz89, bl69, bl89, c69, c89, n69, n89, q69, q89, γ189⟩ => bx (γ189 0) (#[.slice none 0 0]) 38 :: bx (γ26 0) (#[.slice q25 n25 c25]) 38 :: bx (γ23 0) (#[.slice q22 n22 c22]) 38 :: bx (γ15 0) (#[.int .i64 x14.kind, .int .i64 x14.a, .slice x14.p x14.n x14.cap]) 54 :: bx (γ6 0) (#[.slice q0 n0 c0]) 38 :: (Y69 ++ (Y89 ++ (Yz69 ++ (Yz89 ++ (Y25 ++ (Yz25 ++ (Y22 ++ (Yz22 ++ (Y0 ++ (Yz0 ++ []))))))))))) ?_ (fun hmx13 => ?_)
        ·
          rintro ⟨Y69, Y89, Yz69, Yz89, bl69, bl89, c69, c89, n69, n89, q69, q89, γ189⟩ ⟨hB69, hB89, hE69, hG69, hG89, hO69, hO89, hf69⟩
          refine a1 9 rfl ?_
          refine mo0 1 [(9, .go (owns 0 0 1))] [5, 8, 9, 10, 11, 12, 21, 22, 23, 45, 46] (fun _ => []) (fun _ L => (L.set 0 (bx (γ189 0) (#[.slice q89 n89 c89]) 38))) (fun _ => ?_)
          refine od_ ?_
          refine tk (m := 0) [10, 11] [] [5, 8, 9, 10, 11, 12, 21, 22, 23] [(13, .int .i64 ((runG (bl0.map GngA.val) x14).2.1)), (14, .int .i64 ((runG (bl0.map GngA.val) x14).2.2))] ([]) #[true, true, true, true, true, true, true, true, true, true, true, true] al0 ?_
          exact wk (hmx14 (Y69, Y89, Yz69, Yz89, bl69, bl89, c69, c89, n69, n89, q69, q89, γ189) ⟨hB69, hB89, hE69, hG69, hG89, hO69, hO89, hf69⟩) [5, 8, 9, 10, 11, 12, 13, 14, 21, 22, 23] [[_], [_], [_], [_], [_], _, _, _, _, _, _, _, _, _, _] [0, 1, 2, 3, 4, 5, 6, 7, 8, 9, 10, 11, 12, 13, 14] rfl rfl
        refine any_cutX (V := (List Ob) × (List Ob) × (List Ob) × (List Ob) × (List GngA) × (List GngA) × (Nat) × (Nat) × (Nat) × (Nat) × (Option Addr) × (Option Addr)) (fun ⟨Y69, Y89, Yz69, Yz89, bl69, bl89, c69, c89, n69, n89, q69, q89⟩ => bl69.map GngA.val = shortV (bl22.map GngA.val) ∧ bl89.map GngA.val = (runG (bl0.map GngA.val) x14).1 ∧ bl69.map GngA.val = bl0.map GngA.val ∧ GotG 3 Yz69 bl69 ∧ GotG 3 Yz89 bl89 ∧ SlO 46 Y69 q69 n69 c69 bl69 ∧ SlO 46 Y89 q89 n89 c89 bl89 ∧ (bl69.length ≤ 9 ∧ ∀ x ∈ bl69, x.n ≤ 1000)) 4 #[true, true, true, true, true, true, true, true, false, false, false, false] (fun ⟨Y69, Y89, Yz69, Yz89, bl69, bl89, c69, c89, n69, n89, q69, q89⟩ => [(5, .pointer (some ⟨γ6 0, 0, none⟩)), (8, .pointer (some ⟨γ23 0, 0, none⟩)), (9, .pointer (some ⟨γ26 0, 0, none⟩)), (10, .int .i64 ((runG (bl0.map GngA.val) x14).2.1)), (11, .int .i64 ((runG (bl0.map GngA.val) x14).2.2)), (21, .slice (some ⟨b12, o12, none⟩) no co), (22, .int .i64 (no : Nat)), (23, .int .i64 (j : Nat)), (44, .agg #[.slice q89 n89 c89]), (45, .int .i64 ((runG (bl0.map GngA.val) x14).2.1)), (46, .int .i64 ((runG (bl0.map GngA.val) x14).2.2))]) (fun ⟨Y69, Y89, Yz69, Yz89, bl69, bl89, c69, c89, n69, n89, q69, q89⟩ => bx (γ26 0) (#[.slice q25 n25 c25]) 38 :: bx (γ23 0) (#[.slice q22 n22 c22]) 38 :: bx (γ15 0) (#[.int .i64 x14.kind, .int .i64 x14.a, .slice x14.p x14.n x14.cap]) 54 :: bx (γ6 0) (#[.slice q0 n0 c0]) 38 :: (Y69 ++ (Y89 ++ (Yz69 ++ (Yz89 ++ (Y25 ++ (Yz25 ++ (Y22 ++ (Yz22 ++ (Y0 ++ (Yz0 ++ []))))))))))) ?_ (fun hmx12 => ?_)
        ·
          rintro ⟨Y69, Y89, Yz69, Yz89, bl69, bl89, c69, c89, n69, n89, q69, q89⟩ ⟨hB69, hB89, hE69, hG69, hG89, hO69, hO89, hf69⟩
          refine a1 8 rfl ?_
          refine mo0 1 [] [5, 8, 9, 10, 11, 21, 22, 23, 44, 45, 46] (fun γ189 => [(12, .pointer (some ⟨γ189 0, 0, none⟩))]) (fun γ189 L => bx (γ189 0) (#[.slice none 0 0]) 38 :: L) (fun γ189 => ?_)
          refine od_ ?_
          exact wk (hmx13 (Y69, Y89, Yz69, Yz89, bl69, bl89, c69, c89, n69, n89, q69, q89, γ189) ⟨hB69, hB89, hE69, hG69, hG89, hO69, hO89, hf69⟩) [5, 8, 9, 10, 11, 12, 21, 22, 23, 44, 45, 46] [[_], [_], [_], [_], [_], _, _, _, _, _, _, _, _, _, _] [0, 1, 2, 3, 4, 5, 6, 7, 8, 9, 10, 11, 12, 13, 14] rfl rfl
        refine any_cutX (V := (List Ob) × (List Ob) × (List GngA) × (Nat) × (Nat) × (Option Addr) × (Nat → Nat)) (fun ⟨Y69, Yz69, bl69, c69, n69, q69, γ189⟩ => bl69.map GngA.val = shortV (bl22.map GngA.val) ∧ bl69.map GngA.val = bl0.map GngA.val ∧ GotG 3 Yz69 bl69 ∧ SlO 46 Y69 q69 n69 c69 bl69 ∧ (bl69.length ≤ 9 ∧ ∀ x ∈ bl69, x.n ≤ 1000)) 8 #[true, true, true, false, false, false, false, false, true, false, false, false] (fun ⟨Y69, Yz69, bl69, c69, n69, q69, γ189⟩ => [(5, .pointer (some ⟨γ6 0, 0, none⟩)), (8, .pointer (some ⟨γ23 0, 0, none⟩)), (9, .pointer (some ⟨γ26 0, 0, none⟩)), (10, .int .i64 ((runG (bl0.map GngA.val) x14).2.1)), (11, .int .i64 ((runG (bl0.map GngA.val) x14).2.2)), (12, .pointer (some ⟨γ189 0, 0, none⟩)), (21, .slice (some ⟨b12, o12, none⟩) no co), (22, .int .i64 (no : Nat)), (23, .int .i64 (j : Nat)), (40, .agg #[.int .i64 x14.kind, .int .i64 x14.a, .slice x14.p x14.n x14.cap]), (42, .agg #[.slice q69 n69 c69])]) (fun ⟨Y69, Yz69, bl69, c69, n69, q69, γ189⟩ => bx (γ189 0) (#[.slice none 0 0]) 38 :: bx (γ26 0) (#[.slice q25 n25 c25]) 38 :: bx (γ23 0) (#[.slice q22 n22 c22]) 38 :: bx (γ15 0) (#[.int .i64 x14.kind, .int .i64 x14.a, .slice x14.p x14.n x14.cap]) 54 :: bx (γ6 0) (#[.slice q0 n0 c0]) 38 :: (Y69 ++ (Yz69 ++ (Y25 ++ (Yz25 ++ (Y22 ++ (Yz22 ++ (Y0 ++ (Yz0 ++ []))))))))) ?_ (fun hmx11 => ?_)
        ·
          rintro ⟨Y69, Yz69, bl69, c69, n69, q69, γ189⟩ ⟨hB69, hE69, hG69, hO69, hf69⟩
          refine a1 3 rfl ?_
          refine cP (fun v L' => ∃ q_ n_ c_ Y_ Z_ bl_, v = .tuple #[.agg #[.slice q_ n_ c_], .int .i64 (runG (bl0.map GngA.val) x14).2.1, .int .i64 (runG (bl0.map GngA.val) x14).2.2] ∧ L' = List.take 5 (bx (γ189 0) (#[.slice none 0 0]) 38 :: bx (γ26 0) (#[.slice q25 n25 c25]) 38 :: bx (γ23 0) (#[.slice q22 n22 c22]) 38 :: bx (γ15 0) (#[.int .i64 x14.kind, .int .i64 x14.a, .slice x14.p x14.n x14.cap]) 54 :: bx (γ6 0) (#[.slice q0 n0 c0]) 38 :: (Y69 ++ (Yz69 ++ (Y25 ++ (Yz25 ++ (Y22 ++ (Yz22 ++ (Y0 ++ (Yz0 ++ []))))))))) ++ (Y_ ++ (Z_ ++ List.drop 5 (bx (γ189 0) (#[.slice none 0 0]) 38 :: bx (γ26 0) (#[.slice q25 n25 c25]) 38 :: bx (γ23 0) (#[.slice q22 n22 c22]) 38 :: bx (γ15 0) (#[.int .i64 x14.kind, .int .i64 x14.a, .slice x14.p x14.n x14.cap]) 54 :: bx (γ6 0) (#[.slice q0 n0 c0]) 38 :: (Y69 ++ (Yz69 ++ (Y25 ++ (Yz25 ++ (Y22 ++ (Yz22 ++ (Y0 ++ (Yz0 ++ []))))))))))) ∧ SlO 46 Y_ q_ n_ c_ bl_ ∧ GotG 3 Z_ bl_ ∧ bl_.map GngA.val = (runG (bl0.map GngA.val) x14).1) Try.call27 (fun w hw => (wants_t14 x14 q69 n69 c69 bl69 w (SlO.sub hO69 hw (List.Sublist.cons _ (List.Sublist.cons _ (List.Sublist.cons _ (List.Sublist.cons _ (List.Sublist.cons _ (List.sublist_append_left Y69 _))))))) hO69.len (by have := hO69.len; have := hf69.1; omega) (GotG.reads hG69 hw (List.Sublist.cons _ (List.Sublist.cons _ (List.Sublist.cons _ (List.Sublist.cons _ (List.Sublist.cons _ (List.Sublist.trans (List.sublist_append_left Yz69 _) (List.sublist_append_right Y69 _)))))))) hf69.2 hO69.facts.2.1 (hsx14.kept hw.below) hnx14 hcx14 hbx14).mono fun e w' ⟨q_, n_, c_, Y_, Z_, bl_, he, hB, hO, hG, hb, hY⟩ => by rw [hE69] at he hB; exact ⟨_, _, he, ⟨q_, n_, c_, Y_, Z_, bl_, rfl, rfl, hO, hG, hB⟩, hs_re (hw.join hb hY 5)⟩) ?_
          rintro v89 L89 ⟨q89, n89, c89, Y89, Yz89, bl89, rfl, rfl, hO89, hG89, hB89⟩
          refine od_ ?_
          refine tk (m := 3) [4, 5, 6, 7] [] [5, 8, 9, 10, 11, 12, 21, 22, 23] [(44, .agg #[.slice q89 n89 c89]), (45, .int .i64 ((runG (bl0.map GngA.val) x14).2.1)), (46, .int .i64 ((runG (bl0.map GngA.val) x14).2.2))] ([]) #[true, true, true, true, true, true, true, true, true, false, false, false] al0 ?_
          exact wk (hmx13 (Y69, Y89, Yz69, Yz89, bl69, bl89, c69, c89, n69, n89, q69, q89, γ189) ⟨hB69, hB89, hE69, hG69, hG89, hO69, hO89, hf69⟩) [5, 8, 9, 10, 11, 12, 21, 22, 23, 44, 45, 46] [[_], [_], [_], [_], [_], _, _, _, _, _, _, _, _, _, _] [0, 1, 2, 3, 4, 7, 5, 8, 6, 9, 10, 11, 12, 13, 14] rfl rfl
        refine any_cutX (V := (List Ob) × (List Ob) × (List GngA) × (Nat) × (Nat) × (Option Addr) × (Nat → Nat)) (fun ⟨Y69, Yz69, bl69, c69, n69, q69, γ189⟩ => bl69.map GngA.val = shortV (bl22.map GngA.val) ∧ bl69.map GngA.val = bl0.map GngA.val ∧ GotG 3 Yz69 bl69 ∧ SlO 46 Y69 q69 n69 c69 bl69 ∧ (bl69.length ≤ 9 ∧ ∀ x ∈ bl69, x.n ≤ 1000)) 9 #[false, true, true, false, false, false, false, false, true, false, false, false] (fun ⟨Y69, Yz69, bl69, c69, n69, q69, γ189⟩ => [(5, .pointer (some ⟨γ6 0, 0, none⟩)), (7, .pointer (some ⟨γ15 0, 0, none⟩)), (8, .pointer (some ⟨γ23 0, 0, none⟩)), (9, .pointer (some ⟨γ26 0, 0, none⟩)), (10, .int .i64 ((runG (bl0.map GngA.val) x14).2.1)), (11, .int .i64 ((runG (bl0.map GngA.val) x14).2.2)), (12, .pointer (some ⟨γ189 0, 0, none⟩)), (21, .slice (some ⟨b12, o12, none⟩) no co), (22, .int .i64 (no : Nat)), (23, .int .i64 (j : Nat)), (42, .agg #[.slice q69 n69 c69])]) (fun ⟨Y69, Yz69, bl69, c69, n69, q69, γ189⟩ => bx (γ189 0) (#[.slice none 0 0]) 38 :: bx (γ26 0) (#[.slice q25 n25 c25]) 38 :: bx (γ23 0) (#[.slice q22 n22 c22]) 38 :: bx (γ15 0) (#[.int .i64 x14.kind, .int .i64 x14.a, .slice x14.p x14.n x14.cap]) 54 :: bx (γ6 0) (#[.slice q0 n0 c0]) 38 :: (Y69 ++ (Yz69 ++ (Y25 ++ (Yz25 ++ (Y22 ++ (Yz22 ++ (Y0 ++ (Yz0 ++ []))))))))) ?_ (fun hmx10 => ?_)
        ·
          rintro ⟨Y69, Yz69, bl69, c69, n69, q69, γ189⟩ ⟨hB69, hE69, hG69, hO69, hf69⟩
          refine a1 0 rfl ?_
          refine qo0 1 [(0, .go (owns 3 0 3))] [5, 8, 9, 10, 11, 12, 21, 22, 23, 42] [(40, .agg #[.int .i64 x14.kind, .int .i64 x14.a, .slice x14.p x14.n x14.cap])] ?_
          refine od_ ?_
          exact wk (hmx11 (Y69, Yz69, bl69, c69, n69, q69, γ189) ⟨hB69, hE69, hG69, hO69, hf69⟩) [5, 8, 9, 10, 11, 12, 21, 22, 23, 40, 42] [[_], [_], [_], [_], [_], _, _, _, _, _, _, _, _] [0, 1, 2, 3, 4, 5, 6, 7, 8, 9, 10, 11, 12] rfl rfl
        refine any_cutX (V := (Nat → Nat)) (fun γ189 => True) 9 #[true, true, false, false, false, false, false, false, true, false, false, false] (fun γ189 => [(5, .pointer (some ⟨γ6 0, 0, none⟩)), (8, .pointer (some ⟨γ23 0, 0, none⟩)), (9, .pointer (some ⟨γ26 0, 0, none⟩)), (10, .int .i64 ((runG (bl0.map GngA.val) x14).2.1)), (11, .int .i64 ((runG (bl0.map GngA.val) x14).2.2)), (12, .pointer (some ⟨γ189 0, 0, none⟩)), (21, .slice (some ⟨b12, o12, none⟩) no co), (22, .int .i64 (no : Nat)), (23, .int .i64 (j : Nat)), (40, .agg #[.int .i64 x14.kind, .int .i64 x14.a, .slice x14.p x14.n x14.cap]), (41, .agg #[.slice q22 n22 c22])]) (fun γ189 => bx (γ189 0) (#[.slice none 0 0]) 38 :: bx (γ26 0) (#[.slice q25 n25 c25]) 38 :: bx (γ23 0) (#[.slice q22 n22 c22]) 38 :: bx (γ15 0) (#[.int .i64 x14.kind, .int .i64 x14.a, .slice x14.p x14.n x14.cap]) 54 :: bx (γ6 0) (#[.slice q0 n0 c0]) 38 :: (Y25 ++ (Yz25 ++ (Y22 ++ (Yz22 ++ (Y0 ++ (Yz0 ++ []))))))) ?_ (fun hmx9 => ?_)
        ·
          rintro γ189 _
          refine a1 2 rfl ?_
          refine cP (fun v L' => ∃ q_ n_ c_ Y_ Z_ bl_, v = .agg #[.slice q_ n_ c_] ∧ L' = List.take 5 (bx (γ189 0) (#[.slice none 0 0]) 38 :: bx (γ26 0) (#[.slice q25 n25 c25]) 38 :: bx (γ23 0) (#[.slice q22 n22 c22]) 38 :: bx (γ15 0) (#[.int .i64 x14.kind, .int .i64 x14.a, .slice x14.p x14.n x14.cap]) 54 :: bx (γ6 0) (#[.slice q0 n0 c0]) 38 :: (Y25 ++ (Yz25 ++ (Y22 ++ (Yz22 ++ (Y0 ++ (Yz0 ++ []))))))) ++ (Y_ ++ (Z_ ++ List.drop 5 (bx (γ189 0) (#[.slice none 0 0]) 38 :: bx (γ26 0) (#[.slice q25 n25 c25]) 38 :: bx (γ23 0) (#[.slice q22 n22 c22]) 38 :: bx (γ15 0) (#[.int .i64 x14.kind, .int .i64 x14.a, .slice x14.p x14.n x14.cap]) 54 :: bx (γ6 0) (#[.slice q0 n0 c0]) 38 :: (Y25 ++ (Yz25 ++ (Y22 ++ (Yz22 ++ (Y0 ++ (Yz0 ++ []))))))))) ∧ SlO 46 Y_ q_ n_ c_ bl_ ∧ GotG 3 Z_ bl_ ∧ bl_.map GngA.val = shortV (bl22.map GngA.val)) Try.call16 (fun w hw => (short_t q22 n22 c22 bl22 w (SlO.sub hO22 hw (List.Sublist.cons _ (List.Sublist.cons _ (List.Sublist.cons _ (List.Sublist.cons _ (List.Sublist.cons _ (List.Sublist.trans (List.Sublist.trans (List.sublist_append_left Y22 _) (List.sublist_append_right Yz25 _)) (List.sublist_append_right Y25 _)))))))) hO22.len (by have := hO22.len; have := hf22.1; omega) (GotG.reads hG22 hw (List.Sublist.cons _ (List.Sublist.cons _ (List.Sublist.cons _ (List.Sublist.cons _ (List.Sublist.cons _ (List.Sublist.trans (List.Sublist.trans (List.Sublist.trans (List.sublist_append_left Yz22 _) (List.sublist_append_right Y22 _)) (List.sublist_append_right Yz25 _)) (List.sublist_append_right Y25 _))))))))).mono fun e w' ⟨q_, n_, c_, Y_, bl_, Z_, he, hO, hG, hB, hb, hY⟩ => ⟨_, _, he, ⟨q_, n_, c_, Y_, Z_, bl_, rfl, rfl, hO, hG, hB⟩, hs_re (hw.join hb hY 5)⟩) ?_
          rintro v69 L69 ⟨q69, n69, c69, Y69, Yz69, bl69, rfl, rfl, hO69, hG69, hB69⟩
          have hf69 := short_facts hG69 hB69
          have hE69 : bl69.map GngA.val = bl0.map GngA.val := (hB69.trans (short_same (by rw [hE22]; exact hS0))).trans hE22
          refine od_ ?_
          exact wk (hmx11 (Y69, Yz69, bl69, c69, n69, q69, γ189) ⟨hB69, hE69, hG69, hO69, hf69⟩) [5, 8, 9, 10, 11, 12, 21, 22, 23, 40, 42] [[_], [_], [_], [_], [_], _, _, _, _, _, _, _, _] [0, 1, 2, 3, 4, 5, 6, 7, 8, 9, 10, 11, 12] rfl rfl
        refine any_cutX (V := (List Ob) × (List Ob) × (List GngA) × (Nat) × (Nat) × (Option Addr)) (fun ⟨Y69, Yz69, bl69, c69, n69, q69⟩ => bl69.map GngA.val = shortV (bl22.map GngA.val) ∧ bl69.map GngA.val = bl0.map GngA.val ∧ GotG 3 Yz69 bl69 ∧ SlO 46 Y69 q69 n69 c69 bl69 ∧ (bl69.length ≤ 9 ∧ ∀ x ∈ bl69, x.n ≤ 1000)) 9 #[true, true, true, false, false, false, false, false, false, false, false, false] (fun ⟨Y69, Yz69, bl69, c69, n69, q69⟩ => [(5, .pointer (some ⟨γ6 0, 0, none⟩)), (8, .pointer (some ⟨γ23 0, 0, none⟩)), (9, .pointer (some ⟨γ26 0, 0, none⟩)), (10, .int .i64 ((runG (bl0.map GngA.val) x14).2.1)), (11, .int .i64 ((runG (bl0.map GngA.val) x14).2.2)), (21, .slice (some ⟨b12, o12, none⟩) no co), (22, .int .i64 (no : Nat)), (23, .int .i64 (j : Nat)), (40, .agg #[.int .i64 x14.kind, .int .i64 x14.a, .slice x14.p x14.n x14.cap]), (42, .agg #[.slice q69 n69 c69])]) (fun ⟨Y69, Yz69, bl69, c69, n69, q69⟩ => bx (γ26 0) (#[.slice q25 n25 c25]) 38 :: bx (γ23 0) (#[.slice q22 n22 c22]) 38 :: bx (γ15 0) (#[.int .i64 x14.kind, .int .i64 x14.a, .slice x14.p x14.n x14.cap]) 54 :: bx (γ6 0) (#[.slice q0 n0 c0]) 38 :: (Y69 ++ (Yz69 ++ (Y25 ++ (Yz25 ++ (Y22 ++ (Yz22 ++ (Y0 ++ (Yz0 ++ []))))))))) ?_ (fun hmx8 => ?_)
        ·
          rintro ⟨Y69, Yz69, bl69, c69, n69, q69⟩ ⟨hB69, hE69, hG69, hO69, hf69⟩
          refine any_fork [3, 8] (by kernel_rfl) (by simp) (each_cons _ rfl ?_ (each_cons _ rfl ?_ (each_nil)))
          ·
            refine cP (fun v L' => ∃ q_ n_ c_ Y_ Z_ bl_, v = .tuple #[.agg #[.slice q_ n_ c_], .int .i64 (runG (bl0.map GngA.val) x14).2.1, .int .i64 (runG (bl0.map GngA.val) x14).2.2] ∧ L' = List.take 4 (bx (γ26 0) (#[.slice q25 n25 c25]) 38 :: bx (γ23 0) (#[.slice q22 n22 c22]) 38 :: bx (γ15 0) (#[.int .i64 x14.kind, .int .i64 x14.a, .slice x14.p x14.n x14.cap]) 54 :: bx (γ6 0) (#[.slice q0 n0 c0]) 38 :: (Y69 ++ (Yz69 ++ (Y25 ++ (Yz25 ++ (Y22 ++ (Yz22 ++ (Y0 ++ (Yz0 ++ []))))))))) ++ (Y_ ++ (Z_ ++ List.drop 4 (bx (γ26 0) (#[.slice q25 n25 c25]) 38 :: bx (γ23 0) (#[.slice q22 n22 c22]) 38 :: bx (γ15 0) (#[.int .i64 x14.kind, .int .i64 x14.a, .slice x14.p x14.n x14.cap]) 54 :: bx (γ6 0) (#[.slice q0 n0 c0]) 38 :: (Y69 ++ (Yz69 ++ (Y25 ++ (Yz25 ++ (Y22 ++ (Yz22 ++ (Y0 ++ (Yz0 ++ []))))))))))) ∧ SlO 46 Y_ q_ n_ c_ bl_ ∧ GotG 3 Z_ bl_ ∧ bl_.map GngA.val = (runG (bl0.map GngA.val) x14).1) Try.call27 (fun w hw => (wants_t14 x14 q69 n69 c69 bl69 w (SlO.sub hO69 hw (List.Sublist.cons _ (List.Sublist.cons _ (List.Sublist.cons _ (List.Sublist.cons _ (List.sublist_append_left Y69 _)))))) hO69.len (by have := hO69.len; have := hf69.1; omega) (GotG.reads hG69 hw (List.Sublist.cons _ (List.Sublist.cons _ (List.Sublist.cons _ (List.Sublist.cons _ (List.Sublist.trans (List.sublist_append_left Yz69 _) (List.sublist_append_right Y69 _))))))) hf69.2 hO69.facts.2.1 (hsx14.kept hw.below) hnx14 hcx14 hbx14).mono fun e w' ⟨q_, n_, c_, Y_, Z_, bl_, he, hB, hO, hG, hb, hY⟩ => by rw [hE69] at he hB; exact ⟨_, _, he, ⟨q_, n_, c_, Y_, Z_, bl_, rfl, rfl, hO, hG, hB⟩, hs_re (hw.join hb hY 4)⟩) ?_
            rintro v89 L89 ⟨q89, n89, c89, Y89, Yz89, bl89, rfl, rfl, hO89, hG89, hB89⟩
            refine od_ ?_
            refine tk (m := 4) [4, 5, 6, 7] [] [5, 8, 9, 10, 11, 21, 22, 23] [(44, .agg #[.slice q89 n89 c89]), (45, .int .i64 ((runG (bl0.map GngA.val) x14).2.1)), (46, .int .i64 ((runG (bl0.map GngA.val) x14).2.2))] ([]) #[true, true, true, true, true, true, true, true, false, false, false, false] al0 ?_
            exact wk (hmx12 (Y69, Y89, Yz69, Yz89, bl69, bl89, c69, c89, n69, n89, q69, q89) ⟨hB69, hB89, hE69, hG69, hG89, hO69, hO89, hf69⟩) [5, 8, 9, 10, 11, 21, 22, 23, 44, 45, 46] [[_], [_], [_], [_], _, _, _, _, _, _, _, _, _, _] [0, 1, 2, 3, 6, 4, 7, 5, 8, 9, 10, 11, 12, 13] rfl rfl
          ·
            refine mo0 1 [] [5, 8, 9, 10, 11, 21, 22, 23, 40, 42] (fun γ189 => [(12, .pointer (some ⟨γ189 0, 0, none⟩))]) (fun γ189 L => bx (γ189 0) (#[.slice none 0 0]) 38 :: L) (fun γ189 => ?_)
            refine od_ ?_
            exact wk (hmx11 (Y69, Yz69, bl69, c69, n69, q69, γ189) ⟨hB69, hE69, hG69, hO69, hf69⟩) [5, 8, 9, 10, 11, 12, 21, 22, 23, 40, 42] [[_], [_], [_], [_], [_], _, _, _, _, _, _, _, _] [0, 1, 2, 3, 4, 5, 6, 7, 8, 9, 10, 11, 12] rfl rfl
        refine any_cutX (V := (Nat → Nat)) (fun γ189 => True) 10 #[false, true, false, false, false, false, false, false, true, false, false, false] (fun γ189 => [(5, .pointer (some ⟨γ6 0, 0, none⟩)), (7, .pointer (some ⟨γ15 0, 0, none⟩)), (8, .pointer (some ⟨γ23 0, 0, none⟩)), (9, .pointer (some ⟨γ26 0, 0, none⟩)), (10, .int .i64 ((runG (bl0.map GngA.val) x14).2.1)), (11, .int .i64 ((runG (bl0.map GngA.val) x14).2.2)), (12, .pointer (some ⟨γ189 0, 0, none⟩)), (21, .slice (some ⟨b12, o12, none⟩) no co), (22, .int .i64 (no : Nat)), (23, .int .i64 (j : Nat)), (41, .agg #[.slice q22 n22 c22])]) (fun γ189 => bx (γ189 0) (#[.slice none 0 0]) 38 :: bx (γ26 0) (#[.slice q25 n25 c25]) 38 :: bx (γ23 0) (#[.slice q22 n22 c22]) 38 :: bx (γ15 0) (#[.int .i64 x14.kind, .int .i64 x14.a, .slice x14.p x14.n x14.cap]) 54 :: bx (γ6 0) (#[.slice q0 n0 c0]) 38 :: (Y25 ++ (Yz25 ++ (Y22 ++ (Yz22 ++ (Y0 ++ (Yz0 ++ []))))))) ?_ (fun hmx7 => ?_)
        ·
          rintro γ189 _
          refine any_fork [0, 2] (by kernel_rfl) (by simp) (each_cons _ rfl ?_ (each_cons _ rfl ?_ (each_nil)))
          ·
            refine qo0 1 [(0, .go (owns 3 0 3))] [5, 8, 9, 10, 11, 12, 21, 22, 23, 41] [(40, .agg #[.int .i64 x14.kind, .int .i64 x14.a, .slice x14.p x14.n x14.cap])] ?_
            refine od_ ?_
            exact wk (hmx9 γ189 trivial) [5, 8, 9, 10, 11, 12, 21, 22, 23, 40, 41] [[_], [_], [_], [_], [_], _, _, _, _, _, _] [0, 1, 2, 3, 4, 5, 6, 7, 8, 9, 10] rfl rfl
          ·
            refine cP (fun v L' => ∃ q_ n_ c_ Y_ Z_ bl_, v = .agg #[.slice q_ n_ c_] ∧ L' = List.take 5 (bx (γ189 0) (#[.slice none 0 0]) 38 :: bx (γ26 0) (#[.slice q25 n25 c25]) 38 :: bx (γ23 0) (#[.slice q22 n22 c22]) 38 :: bx (γ15 0) (#[.int .i64 x14.kind, .int .i64 x14.a, .slice x14.p x14.n x14.cap]) 54 :: bx (γ6 0) (#[.slice q0 n0 c0]) 38 :: (Y25 ++ (Yz25 ++ (Y22 ++ (Yz22 ++ (Y0 ++ (Yz0 ++ []))))))) ++ (Y_ ++ (Z_ ++ List.drop 5 (bx (γ189 0) (#[.slice none 0 0]) 38 :: bx (γ26 0) (#[.slice q25 n25 c25]) 38 :: bx (γ23 0) (#[.slice q22 n22 c22]) 38 :: bx (γ15 0) (#[.int .i64 x14.kind, .int .i64 x14.a, .slice x14.p x14.n x14.cap]) 54 :: bx (γ6 0) (#[.slice q0 n0 c0]) 38 :: (Y25 ++ (Yz25 ++ (Y22 ++ (Yz22 ++ (Y0 ++ (Yz0 ++ []))))))))) ∧ SlO 46 Y_ q_ n_ c_ bl_ ∧ GotG 3 Z_ bl_ ∧ bl_.map GngA.val = shortV (bl22.map GngA.val)) Try.call16 (fun w hw => (short_t q22 n22 c22 bl22 w (SlO.sub hO22 hw (List.Sublist.cons _ (List.Sublist.cons _ (List.Sublist.cons _ (List.Sublist.cons _ (List.Sublist.cons _ (List.Sublist.trans (List.Sublist.trans (List.sublist_append_left Y22 _) (List.sublist_append_right Yz25 _)) (List.sublist_append_right Y25 _)))))))) hO22.len (by have := hO22.len; have := hf22.1; omega) (GotG.reads hG22 hw (List.Sublist.cons _ (List.Sublist.cons _ (List.Sublist.cons _ (List.Sublist.cons _ (List.Sublist.cons _ (List.Sublist.trans (List.Sublist.trans (List.Sublist.trans (List.sublist_append_left Yz22 _) (List.sublist_append_right Y22 _)) (List.sublist_append_right Yz25 _)) (List.sublist_append_right Y25 _))))))))).mono fun e w' ⟨q_, n_, c_, Y_, bl_, Z_, he, hO, hG, hB, hb, hY⟩ => ⟨_, _, he, ⟨q_, n_, c_, Y_, Z_, bl_, rfl, rfl, hO, hG, hB⟩, hs_re (hw.join hb hY 5)⟩) ?_
            rintro v69 L69 ⟨q69, n69, c69, Y69, Yz69, bl69, rfl, rfl, hO69, hG69, hB69⟩
            have hf69 := short_facts hG69 hB69
            have hE69 : bl69.map GngA.val = bl0.map GngA.val := (hB69.trans (short_same (by rw [hE22]; exact hS0))).trans hE22
            refine od_ ?_
            exact wk (hmx10 (Y69, Yz69, bl69, c69, n69, q69, γ189) ⟨hB69, hE69, hG69, hO69, hf69⟩) [5, 7, 8, 9, 10, 11, 12, 21, 22, 23, 42] [[_], [_], [_], [_], [_], _, _, _, _, _, _, _, _] [0, 1, 2, 3, 4, 5, 6, 7, 8, 9, 10, 11, 12] rfl rfl
        refine any_cutX (V := (List Ob) × (List Ob) × (List GngA) × (Nat) × (Nat) × (Option Addr)) (fun ⟨Y69, Yz69, bl69, c69, n69, q69⟩ => bl69.map GngA.val = shortV (bl22.map GngA.val) ∧ bl69.map GngA.val = bl0.map GngA.val ∧ GotG 3 Yz69 bl69 ∧ SlO 46 Y69 q69 n69 c69 bl69 ∧ (bl69.length ≤ 9 ∧ ∀ x ∈ bl69, x.n ≤ 1000)) 10 #[false, true, true, false, false, false, false, false, false, false, false, false] (fun ⟨Y69, Yz69, bl69, c69, n69, q69⟩ => [(5, .pointer (some ⟨γ6 0, 0, none⟩)), (7, .pointer (some ⟨γ15 0, 0, none⟩)), (8, .pointer (some ⟨γ23 0, 0, none⟩)), (9, .pointer (some ⟨γ26 0, 0, none⟩)), (10, .int .i64 ((runG (bl0.map GngA.val) x14).2.1)), (11, .int .i64 ((runG (bl0.map GngA.val) x14).2.2)), (21, .slice (some ⟨b12, o12, none⟩) no co), (22, .int .i64 (no : Nat)), (23, .int .i64 (j : Nat)), (42, .agg #[.slice q69 n69 c69])]) (fun ⟨Y69, Yz69, bl69, c69, n69, q69⟩ => bx (γ26 0) (#[.slice q25 n25 c25]) 38 :: bx (γ23 0) (#[.slice q22 n22 c22]) 38 :: bx (γ15 0) (#[.int .i64 x14.kind, .int .i64 x14.a, .slice x14.p x14.n x14.cap]) 54 :: bx (γ6 0) (#[.slice q0 n0 c0]) 38 :: (Y69 ++ (Yz69 ++ (Y25 ++ (Yz25 ++ (Y22 ++ (Yz22 ++ (Y0 ++ (Yz0 ++ []))))))))) ?_ (fun hmx6 => ?_)
        ·
          rintro ⟨Y69, Yz69, bl69, c69, n69, q69⟩ ⟨hB69, hE69, hG69, hO69, hf69⟩
          refine any_fork [0, 8] (by kernel_rfl) (by simp) (each_cons _ rfl ?_ (each_cons _ rfl ?_ (each_nil)))
          ·
            refine qo0 1 [(0, .go (owns 2 0 3))] [5, 8, 9, 10, 11, 21, 22, 23, 42] [(40, .agg #[.int .i64 x14.kind, .int .i64 x14.a, .slice x14.p x14.n x14.cap])] ?_
            refine od_ ?_
            exact wk (hmx8 (Y69, Yz69, bl69, c69, n69, q69) ⟨hB69, hE69, hG69, hO69, hf69⟩) [5, 8, 9, 10, 11, 21, 22, 23, 40, 42] [[_], [_], [_], [_], _, _, _, _, _, _, _, _] [0, 1, 2, 3, 4, 5, 6, 7, 8, 9, 10, 11] rfl rfl
          ·
            refine mo0 1 [] [5, 7, 8, 9, 10, 11, 21, 22, 23, 42] (fun γ189 => [(12, .pointer (some ⟨γ189 0, 0, none⟩))]) (fun γ189 L => bx (γ189 0) (#[.slice none 0 0]) 38 :: L) (fun γ189 => ?_)
            refine od_ ?_
            exact wk (hmx10 (Y69, Yz69, bl69, c69, n69, q69, γ189) ⟨hB69, hE69, hG69, hO69, hf69⟩) [5, 7, 8, 9, 10, 11, 12, 21, 22, 23, 42] [[_], [_], [_], [_], [_], _, _, _, _, _, _, _, _] [0, 1, 2, 3, 4, 5, 6, 7, 8, 9, 10, 11, 12] rfl rfl
        refine any_cutX (V := (Nat → Nat)) (fun γ189 => True) 10 #[true, false, false, false, false, false, false, false, true, false, false, false] (fun γ189 => [(5, .pointer (some ⟨γ6 0, 0, none⟩)), (8, .pointer (some ⟨γ23 0, 0, none⟩)), (9, .pointer (some ⟨γ26 0, 0, none⟩)), (10, .int .i64 ((runG (bl0.map GngA.val) x14).2.1)), (11, .int .i64 ((runG (bl0.map GngA.val) x14).2.2)), (12, .pointer (some ⟨γ189 0, 0, none⟩)), (21, .slice (some ⟨b12, o12, none⟩) no co), (22, .int .i64 (no : Nat)), (23, .int .i64 (j : Nat)), (40, .agg #[.int .i64 x14.kind, .int .i64 x14.a, .slice x14.p x14.n x14.cap])]) (fun γ189 => bx (γ189 0) (#[.slice none 0 0]) 38 :: bx (γ26 0) (#[.slice q25 n25 c25]) 38 :: bx (γ23 0) (#[.slice q22 n22 c22]) 38 :: bx (γ15 0) (#[.int .i64 x14.kind, .int .i64 x14.a, .slice x14.p x14.n x14.cap]) 54 :: bx (γ6 0) (#[.slice q0 n0 c0]) 38 :: (Y25 ++ (Yz25 ++ (Y22 ++ (Yz22 ++ (Y0 ++ (Yz0 ++ []))))))) ?_ (fun hmx5 => ?_)
        ·
          rintro γ189 _
          refine a1 1 rfl ?_
          refine qo0 1 [(1, .go (owns 2 0 1))] [5, 8, 9, 10, 11, 12, 21, 22, 23, 40] [(41, .agg #[.slice q22 n22 c22])] ?_
          refine od_ ?_
          exact wk (hmx9 γ189 trivial) [5, 8, 9, 10, 11, 12, 21, 22, 23, 40, 41] [[_], [_], [_], [_], [_], _, _, _, _, _, _] [0, 1, 2, 3, 4, 5, 6, 7, 8, 9, 10] rfl rfl
        refine any_cutX (V := Unit) (fun _ => True) 10 #[true, true, false, false, false, false, false, false, false, false, false, false] (fun _ => [(5, .pointer (some ⟨γ6 0, 0, none⟩)), (8, .pointer (some ⟨γ23 0, 0, none⟩)), (9, .pointer (some ⟨γ26 0, 0, none⟩)), (10, .int .i64 ((runG (bl0.map GngA.val) x14).2.1)), (11, .int .i64 ((runG (bl0.map GngA.val) x14).2.2)), (21, .slice (some ⟨b12, o12, none⟩) no co), (22, .int .i64 (no : Nat)), (23, .int .i64 (j : Nat)), (40, .agg #[.int .i64 x14.kind, .int .i64 x14.a, .slice x14.p x14.n x14.cap]), (41, .agg #[.slice q22 n22 c22])]) (fun _ => bx (γ26 0) (#[.slice q25 n25 c25]) 38 :: bx (γ23 0) (#[.slice q22 n22 c22]) 38 :: bx (γ15 0) (#[.int .i64 x14.kind, .int .i64 x14.a, .slice x14.p x14.n x14.cap]) 54 :: bx (γ6 0) (#[.slice q0 n0 c0]) 38 :: (Y25 ++ (Yz25 ++ (Y22 ++ (Yz22 ++ (Y0 ++ (Yz0 ++ []))))))) ?_ (fun hmx4 => ?_)
        ·
          rintro _ _
          refine any_fork [2, 8] (by kernel_rfl) (by simp) (each_cons _ rfl ?_ (each_cons _ rfl ?_ (each_nil)))
          ·
            refine cP (fun v L' => ∃ q_ n_ c_ Y_ Z_ bl_, v = .agg #[.slice q_ n_ c_] ∧ L' = List.take 4 (bx (γ26 0) (#[.slice q25 n25 c25]) 38 :: bx (γ23 0) (#[.slice q22 n22 c22]) 38 :: bx (γ15 0) (#[.int .i64 x14.kind, .int .i64 x14.a, .slice x14.p x14.n x14.cap]) 54 :: bx (γ6 0) (#[.slice q0 n0 c0]) 38 :: (Y25 ++ (Yz25 ++ (Y22 ++ (Yz22 ++ (Y0 ++ (Yz0 ++ []))))))) ++ (Y_ ++ (Z_ ++ List.drop 4 (bx (γ26 0) (#[.slice q25 n25 c25]) 38 :: bx (γ23 0) (#[.slice q22 n22 c22]) 38 :: bx (γ15 0) (#[.int .i64 x14.kind, .int .i64 x14.a, .slice x14.p x14.n x14.cap]) 54 :: bx (γ6 0) (#[.slice q0 n0 c0]) 38 :: (Y25 ++ (Yz25 ++ (Y22 ++ (Yz22 ++ (Y0 ++ (Yz0 ++ []))))))))) ∧ SlO 46 Y_ q_ n_ c_ bl_ ∧ GotG 3 Z_ bl_ ∧ bl_.map GngA.val = shortV (bl22.map GngA.val)) Try.call16 (fun w hw => (short_t q22 n22 c22 bl22 w (SlO.sub hO22 hw (List.Sublist.cons _ (List.Sublist.cons _ (List.Sublist.cons _ (List.Sublist.cons _ (List.Sublist.trans (List.Sublist.trans (List.sublist_append_left Y22 _) (List.sublist_append_right Yz25 _)) (List.sublist_append_right Y25 _))))))) hO22.len (by have := hO22.len; have := hf22.1; omega) (GotG.reads hG22 hw (List.Sublist.cons _ (List.Sublist.cons _ (List.Sublist.cons _ (List.Sublist.cons _ (List.Sublist.trans (List.Sublist.trans (List.Sublist.trans (List.sublist_append_left Yz22 _) (List.sublist_append_right Y22 _)) (List.sublist_append_right Yz25 _)) (List.sublist_append_right Y25 _)))))))).mono fun e w' ⟨q_, n_, c_, Y_, bl_, Z_, he, hO, hG, hB, hb, hY⟩ => ⟨_, _, he, ⟨q_, n_, c_, Y_, Z_, bl_, rfl, rfl, hO, hG, hB⟩, hs_re (hw.join hb hY 4)⟩) ?_
            rintro v69 L69 ⟨q69, n69, c69, Y69, Yz69, bl69, rfl, rfl, hO69, hG69, hB69⟩
            have hf69 := short_facts hG69 hB69
            have hE69 : bl69.map GngA.val = bl0.map GngA.val := (hB69.trans (short_same (by rw [hE22]; exact hS0))).trans hE22
            refine od_ ?_
            exact wk (hmx8 (Y69, Yz69, bl69, c69, n69, q69) ⟨hB69, hE69, hG69, hO69, hf69⟩) [5, 8, 9, 10, 11, 21, 22, 23, 40, 42] [[_], [_], [_], [_], _, _, _, _, _, _, _, _] [0, 1, 2, 3, 4, 5, 6, 7, 8, 9, 10, 11] rfl rfl
          ·
            refine mo0 1 [] [5, 8, 9, 10, 11, 21, 22, 23, 40, 41] (fun γ189 => [(12, .pointer (some ⟨γ189 0, 0, none⟩))]) (fun γ189 L => bx (γ189 0) (#[.slice none 0 0]) 38 :: L) (fun γ189 => ?_)
            refine od_ ?_
            exact wk (hmx9 γ189 trivial) [5, 8, 9, 10, 11, 12, 21, 22, 23, 40, 41] [[_], [_], [_], [_], [_], _, _, _, _, _, _] [0, 1, 2, 3, 4, 5, 6, 7, 8, 9, 10] rfl rfl
        refine any_cutX (V := (Nat → Nat)) (fun γ189 => True) 11 #[false, false, false, false, false, false, false, false, true, false, false, false] (fun γ189 => [(5, .pointer (some ⟨γ6 0, 0, none⟩)), (7, .pointer (some ⟨γ15 0, 0, none⟩)), (8, .pointer (some ⟨γ23 0, 0, none⟩)), (9, .pointer (some ⟨γ26 0, 0, none⟩)), (10, .int .i64 ((runG (bl0.map GngA.val) x14).2.1)), (11, .int .i64 ((runG (bl0.map GngA.val) x14).2.2)), (12, .pointer (some ⟨γ189 0, 0, none⟩)), (21, .slice (some ⟨b12, o12, none⟩) no co), (22, .int .i64 (no : Nat)), (23, .int .i64 (j : Nat))]) (fun γ189 => bx (γ189 0) (#[.slice none 0 0]) 38 :: bx (γ26 0) (#[.slice q25 n25 c25]) 38 :: bx (γ23 0) (#[.slice q22 n22 c22]) 38 :: bx (γ15 0) (#[.int .i64 x14.kind, .int .i64 x14.a, .slice x14.p x14.n x14.cap]) 54 :: bx (γ6 0) (#[.slice q0 n0 c0]) 38 :: (Y25 ++ (Yz25 ++ (Y22 ++ (Yz22 ++ (Y0 ++ (Yz0 ++ []))))))) ?_ (fun hmx3 => ?_)
        ·
          rintro γ189 _
          refine any_fork [0, 1] (by kernel_rfl) (by simp) (each_cons _ rfl ?_ (each_cons _ rfl ?_ (each_nil)))
          ·
            refine qo0 1 [(0, .go (owns 3 0 3))] [5, 8, 9, 10, 11, 12, 21, 22, 23] [(40, .agg #[.int .i64 x14.kind, .int .i64 x14.a, .slice x14.p x14.n x14.cap])] ?_
            refine od_ ?_
            exact wk (hmx5 γ189 trivial) [5, 8, 9, 10, 11, 12, 21, 22, 23, 40] [[_], [_], [_], [_], [_], _, _, _, _, _, _] [0, 1, 2, 3, 4, 5, 6, 7, 8, 9, 10] rfl rfl
          ·
            refine qo0 1 [(1, .go (owns 2 0 1))] [5, 7, 8, 9, 10, 11, 12, 21, 22, 23] [(41, .agg #[.slice q22 n22 c22])] ?_
            refine od_ ?_
            exact wk (hmx7 γ189 trivial) [5, 7, 8, 9, 10, 11, 12, 21, 22, 23, 41] [[_], [_], [_], [_], [_], _, _, _, _, _, _] [0, 1, 2, 3, 4, 5, 6, 7, 8, 9, 10] rfl rfl
        refine any_cutX (V := Unit) (fun _ => True) 11 #[false, true, false, false, false, false, false, false, false, false, false, false] (fun _ => [(5, .pointer (some ⟨γ6 0, 0, none⟩)), (7, .pointer (some ⟨γ15 0, 0, none⟩)), (8, .pointer (some ⟨γ23 0, 0, none⟩)), (9, .pointer (some ⟨γ26 0, 0, none⟩)), (10, .int .i64 ((runG (bl0.map GngA.val) x14).2.1)), (11, .int .i64 ((runG (bl0.map GngA.val) x14).2.2)), (21, .slice (some ⟨b12, o12, none⟩) no co), (22, .int .i64 (no : Nat)), (23, .int .i64 (j : Nat)), (41, .agg #[.slice q22 n22 c22])]) (fun _ => bx (γ26 0) (#[.slice q25 n25 c25]) 38 :: bx (γ23 0) (#[.slice q22 n22 c22]) 38 :: bx (γ15 0) (#[.int .i64 x14.kind, .int .i64 x14.a, .slice x14.p x14.n x14.cap]) 54 :: bx (γ6 0) (#[.slice q0 n0 c0]) 38 :: (Y25 ++ (Yz25 ++ (Y22 ++ (Yz22 ++ (Y0 ++ (Yz0 ++ []))))))) ?_ (fun hmx2 => ?_)
        ·
          rintro _ _
          refine any_fork [0, 2, 8] (by kernel_rfl) (by simp) (each_cons _ rfl ?_ (each_cons _ rfl ?_ (each_cons _ rfl ?_ (each_nil))))
          ·
            refine qo0 1 [(0, .go (owns 2 0 3))] [5, 8, 9, 10, 11, 21, 22, 23, 41] [(40, .agg #[.int .i64 x14.kind, .int .i64 x14.a, .slice x14.p x14.n x14.cap])] ?_
            refine od_ ?_
            exact wk (hmx4 () trivial) [5, 8, 9, 10, 11, 21, 22, 23, 40, 41] [[_], [_], [_], [_], _, _, _, _, _, _] [0, 1, 2, 3, 4, 5, 6, 7, 8, 9] rfl rfl
          ·
            refine cP (fun v L' => ∃ q_ n_ c_ Y_ Z_ bl_, v = .agg #[.slice q_ n_ c_] ∧ L' = List.take 4 (bx (γ26 0) (#[.slice q25 n25 c25]) 38 :: bx (γ23 0) (#[.slice q22 n22 c22]) 38 :: bx (γ15 0) (#[.int .i64 x14.kind, .int .i64 x14.a, .slice x14.p x14.n x14.cap]) 54 :: bx (γ6 0) (#[.slice q0 n0 c0]) 38 :: (Y25 ++ (Yz25 ++ (Y22 ++ (Yz22 ++ (Y0 ++ (Yz0 ++ []))))))) ++ (Y_ ++ (Z_ ++ List.drop 4 (bx (γ26 0) (#[.slice q25 n25 c25]) 38 :: bx (γ23 0) (#[.slice q22 n22 c22]) 38 :: bx (γ15 0) (#[.int .i64 x14.kind, .int .i64 x14.a, .slice x14.p x14.n x14.cap]) 54 :: bx (γ6 0) (#[.slice q0 n0 c0]) 38 :: (Y25 ++ (Yz25 ++ (Y22 ++ (Yz22 ++ (Y0 ++ (Yz0 ++ []))))))))) ∧ SlO 46 Y_ q_ n_ c_ bl_ ∧ GotG 3 Z_ bl_ ∧ bl_.map GngA.val = shortV (bl22.map GngA.val)) Try.call16 (fun w hw => (short_t q22 n22 c22 bl22 w (SlO.sub hO22 hw (List.Sublist.cons _ (List.Sublist.cons _ (List.Sublist.cons _ (List.Sublist.cons _ (List.Sublist.trans (List.Sublist.trans (List.sublist_append_left Y22 _) (List.sublist_append_right Yz25 _)) (List.sublist_append_right Y25 _))))))) hO22.len (by have := hO22.len; have := hf22.1; omega) (GotG.reads hG22 hw (List.Sublist.cons _ (List.Sublist.cons _ (List.Sublist.cons _ (List.Sublist.cons _ (List.Sublist.trans (List.Sublist.trans (List.Sublist.trans (List.sublist_append_left Yz22 _) (List.sublist_append_right Y22 _)) (List.sublist_append_right Yz25 _)) (List.sublist_append_right Y25 _)))))))).mono fun e w' ⟨q_, n_, c_, Y_, bl_, Z_, he, hO, hG, hB, hb, hY⟩ => ⟨_, _, he, ⟨q_, n_, c_, Y_, Z_, bl_, rfl, rfl, hO, hG, hB⟩, hs_re (hw.join hb hY 4)⟩) ?_
            rintro v69 L69 ⟨q69, n69, c69, Y69, Yz69, bl69, rfl, rfl, hO69, hG69, hB69⟩
            have hf69 := short_facts hG69 hB69
            have hE69 : bl69.map GngA.val = bl0.map GngA.val := (hB69.trans (short_same (by rw [hE22]; exact hS0))).trans hE22
            refine od_ ?_
            exact wk (hmx6 (Y69, Yz69, bl69, c69, n69, q69) ⟨hB69, hE69, hG69, hO69, hf69⟩) [5, 7, 8, 9, 10, 11, 21, 22, 23, 42] [[_], [_], [_], [_], _, _, _, _, _, _, _, _] [0, 1, 2, 3, 4, 5, 6, 7, 8, 9, 10, 11] rfl rfl
          ·
            refine mo0 1 [] [5, 7, 8, 9, 10, 11, 21, 22, 23, 41] (fun γ189 => [(12, .pointer (some ⟨γ189 0, 0, none⟩))]) (fun γ189 L => bx (γ189 0) (#[.slice none 0 0]) 38 :: L) (fun γ189 => ?_)
            refine od_ ?_
            exact wk (hmx7 γ189 trivial) [5, 7, 8, 9, 10, 11, 12, 21, 22, 23, 41] [[_], [_], [_], [_], [_], _, _, _, _, _, _] [0, 1, 2, 3, 4, 5, 6, 7, 8, 9, 10] rfl rfl
        refine any_cutX (V := Unit) (fun _ => True) 11 #[true, false, false, false, false, false, false, false, false, false, false, false] (fun _ => [(5, .pointer (some ⟨γ6 0, 0, none⟩)), (8, .pointer (some ⟨γ23 0, 0, none⟩)), (9, .pointer (some ⟨γ26 0, 0, none⟩)), (10, .int .i64 ((runG (bl0.map GngA.val) x14).2.1)), (11, .int .i64 ((runG (bl0.map GngA.val) x14).2.2)), (21, .slice (some ⟨b12, o12, none⟩) no co), (22, .int .i64 (no : Nat)), (23, .int .i64 (j : Nat)), (40, .agg #[.int .i64 x14.kind, .int .i64 x14.a, .slice x14.p x14.n x14.cap])]) (fun _ => bx (γ26 0) (#[.slice q25 n25 c25]) 38 :: bx (γ23 0) (#[.slice q22 n22 c22]) 38 :: bx (γ15 0) (#[.int .i64 x14.kind, .int .i64 x14.a, .slice x14.p x14.n x14.cap]) 54 :: bx (γ6 0) (#[.slice q0 n0 c0]) 38 :: (Y25 ++ (Yz25 ++ (Y22 ++ (Yz22 ++ (Y0 ++ (Yz0 ++ []))))))) ?_ (fun hmx1 => ?_)
        ·
          rintro _ _
          refine any_fork [1, 8] (by kernel_rfl) (by simp) (each_cons _ rfl ?_ (each_cons _ rfl ?_ (each_nil)))
          ·
            refine qo0 1 [(1, .go (owns 1 0 1))] [5, 8, 9, 10, 11, 21, 22, 23, 40] [(41, .agg #[.slice q22 n22 c22])] ?_
            refine od_ ?_
            exact wk (hmx4 () trivial) [5, 8, 9, 10, 11, 21, 22, 23, 40, 41] [[_], [_], [_], [_], _, _, _, _, _, _] [0, 1, 2, 3, 4, 5, 6, 7, 8, 9] rfl rfl
          ·
            refine mo0 1 [] [5, 8, 9, 10, 11, 21, 22, 23, 40] (fun γ189 => [(12, .pointer (some ⟨γ189 0, 0, none⟩))]) (fun γ189 L => bx (γ189 0) (#[.slice none 0 0]) 38 :: L) (fun γ189 => ?_)
            refine od_ ?_
            exact wk (hmx5 γ189 trivial) [5, 8, 9, 10, 11, 12, 21, 22, 23, 40] [[_], [_], [_], [_], [_], _, _, _, _, _, _] [0, 1, 2, 3, 4, 5, 6, 7, 8, 9, 10] rfl rfl
        refine any_fork [0, 1, 8] (by kernel_rfl) (by simp) (each_cons _ rfl ?_ (each_cons _ rfl ?_ (each_cons _ rfl ?_ (each_nil))))
        ·
          refine qo0 1 [(0, .go (owns 2 0 3))] [5, 8, 9, 10, 11, 21, 22, 23] [(40, .agg #[.int .i64 x14.kind, .int .i64 x14.a, .slice x14.p x14.n x14.cap])] ?_
          refine od_ ?_
          exact wk (hmx1 () trivial) [5, 8, 9, 10, 11, 21, 22, 23, 40] [[_], [_], [_], [_], _, _, _, _, _, _] [0, 1, 2, 3, 4, 5, 6, 7, 8, 9] rfl rfl
        ·
          refine qo0 1 [(1, .go (owns 1 0 1))] [5, 7, 8, 9, 10, 11, 21, 22, 23] [(41, .agg #[.slice q22 n22 c22])] ?_
          refine od_ ?_
          exact wk (hmx2 () trivial) [5, 7, 8, 9, 10, 11, 21, 22, 23, 41] [[_], [_], [_], [_], _, _, _, _, _, _] [0, 1, 2, 3, 4, 5, 6, 7, 8, 9] rfl rfl
        ·
          refine mo0 1 [] [5, 7, 8, 9, 10, 11, 21, 22, 23] (fun γ189 => [(12, .pointer (some ⟨γ189 0, 0, none⟩))]) (fun γ189 L => bx (γ189 0) (#[.slice none 0 0]) 38 :: L) (fun γ189 => ?_)
          refine od_ ?_
          exact wk (hmx3 γ189 trivial) [5, 7, 8, 9, 10, 11, 12, 21, 22, 23] [[_], [_], [_], [_], [_], _, _, _, _, _, _] [0, 1, 2, 3, 4, 5, 6, 7, 8, 9, 10] rfl rfl
      rintro ⟨Y69, Y89, Yz69, Yz89, bl69, bl89, c69, c89, n69, n89, q69, q89, γ189⟩ ⟨hB69, hB89, hE69, hG69, hG89, hO69, hO89, hf69⟩
      refine any_nil (by kernel_rfl) ?_
      refine ds_ (sq_ (sq_ ?_))
      have hf25 := small_facts hG25 (by rw [hB25]; exact run_small)
      have hf89 := small_facts hG89 (by rw [hB89]; exact run_small)
      refine ao_ (qo 11 [(2, .no), (6, .no), (9, .go (owns 1 0 1)), (10, .go (owns 0 0 1))] [5, 8, 9, 11, 12, 21, 22, 23] [(55, .bool false), (56, .agg #[.slice q25 n25 c25]), (57, .agg #[.slice q89 n89 c89])] ([¬ (((runG (bl0.map GngA.val) x14).2.2 : Int) ≠ ((runG (bl0.map GngA.val) x14).2.2 : Int))] ++ ([¬ (((runG (bl0.map GngA.val) x14).2.1 : Int) ≠ ((runG (bl0.map GngA.val) x14).2.1 : Int))])) (alA (al1 (fun h => h rfl)) (al1 (fun h => h rfl))) (cD (.bool true) Try.call20 (fun w hw => by have := rsame_t q25 n25 c25 bl25 q89 n89 c89 bl89 w (SlO.sub hO25 hw (List.Sublist.cons _ (List.Sublist.cons _ (List.Sublist.cons _ (List.Sublist.cons _ (List.Sublist.cons _ (List.Sublist.trans (List.Sublist.trans (List.Sublist.trans (List.Sublist.trans (List.sublist_append_left Y25 _) (List.sublist_append_right Yz89 _)) (List.sublist_append_right Yz69 _)) (List.sublist_append_right Y89 _)) (List.sublist_append_right Y69 _)))))))) hO25.len (by have := hO25.len; have := hf25.1; omega) (GotG.reads hG25 hw (List.Sublist.cons _ (List.Sublist.cons _ (List.Sublist.cons _ (List.Sublist.cons _ (List.Sublist.cons _ (List.Sublist.trans (List.Sublist.trans (List.Sublist.trans (List.Sublist.trans (List.Sublist.trans (List.sublist_append_left Yz25 _) (List.sublist_append_right Y25 _)) (List.sublist_append_right Yz89 _)) (List.sublist_append_right Yz69 _)) (List.sublist_append_right Y89 _)) (List.sublist_append_right Y69 _)))))))) hf25.2 (SlO.sub hO89 hw (List.Sublist.cons _ (List.Sublist.cons _ (List.Sublist.cons _ (List.Sublist.cons _ (List.Sublist.cons _ (List.Sublist.trans (List.sublist_append_left Y89 _) (List.sublist_append_right Y69 _)))))))) hO89.len (by have := hO89.len; have := hf89.1; omega) (GotG.reads hG89 hw (List.Sublist.cons _ (List.Sublist.cons _ (List.Sublist.cons _ (List.Sublist.cons _ (List.Sublist.cons _ (List.Sublist.trans (List.Sublist.trans (List.Sublist.trans (List.sublist_append_left Yz89 _) (List.sublist_append_right Yz69 _)) (List.sublist_append_right Y89 _)) (List.sublist_append_right Y69 _)))))))) hf89.2; rw [decide_eq_true (hB25.trans hB89.symm)] at this; exact this) (qo0 5 [(15, .go (owns 4 0 1)), (16, .go (owns 2 0 1))] [5, 8, 9, 11, 12, 21, 22, 23] [(61, .bool false), (62, .agg #[.slice q0 n0 c0]), (63, .agg #[.slice q22 n22 c22])] (cD (.bool true) Try.call20 (fun w hw => by have := rsame_t q0 n0 c0 bl0 q22 n22 c22 bl22 w (SlO.sub hO0 hw (List.Sublist.cons _ (List.Sublist.cons _ (List.Sublist.cons _ (List.Sublist.cons _ (List.Sublist.cons _ (List.Sublist.trans (List.Sublist.trans (List.Sublist.trans (List.Sublist.trans (List.Sublist.trans (List.Sublist.trans (List.Sublist.trans (List.Sublist.trans (List.sublist_append_left Y0 _) (List.sublist_append_right Yz22 _)) (List.sublist_append_right Y22 _)) (List.sublist_append_right Yz25 _)) (List.sublist_append_right Y25 _)) (List.sublist_append_right Yz89 _)) (List.sublist_append_right Yz69 _)) (List.sublist_append_right Y89 _)) (List.sublist_append_right Y69 _)))))))) hO0.len (by have := hO0.len; have := hf0.1; omega) (GotG.reads hG0 hw (List.Sublist.cons _ (List.Sublist.cons _ (List.Sublist.cons _ (List.Sublist.cons _ (List.Sublist.cons _ (List.Sublist.trans (List.Sublist.trans (List.Sublist.trans (List.Sublist.trans (List.Sublist.trans (List.Sublist.trans (List.Sublist.trans (List.Sublist.trans (List.Sublist.trans (List.sublist_append_left Yz0 _) (List.sublist_append_right Y0 _)) (List.sublist_append_right Yz22 _)) (List.sublist_append_right Y22 _)) (List.sublist_append_right Yz25 _)) (List.sublist_append_right Y25 _)) (List.sublist_append_right Yz89 _)) (List.sublist_append_right Yz69 _)) (List.sublist_append_right Y89 _)) (List.sublist_append_right Y69 _)))))))) hf0.2 (SlO.sub hO22 hw (List.Sublist.cons _ (List.Sublist.cons _ (List.Sublist.cons _ (List.Sublist.cons _ (List.Sublist.cons _ (List.Sublist.trans (List.Sublist.trans (List.Sublist.trans (List.Sublist.trans (List.Sublist.trans (List.Sublist.trans (List.sublist_append_left Y22 _) (List.sublist_append_right Yz25 _)) (List.sublist_append_right Y25 _)) (List.sublist_append_right Yz89 _)) (List.sublist_append_right Yz69 _)) (List.sublist_append_right Y89 _)) (List.sublist_append_right Y69 _)))))))) hO22.len (by have := hO22.len; have := hf22.1; omega) (GotG.reads hG22 hw (List.Sublist.cons _ (List.Sublist.cons _ (List.Sublist.cons _ (List.Sublist.cons _ (List.Sublist.cons _ (List.Sublist.trans (List.Sublist.trans (List.Sublist.trans (List.Sublist.trans (List.Sublist.trans (List.Sublist.trans (List.Sublist.trans (List.sublist_append_left Yz22 _) (List.sublist_append_right Y22 _)) (List.sublist_append_right Yz25 _)) (List.sublist_append_right Y25 _)) (List.sublist_append_right Yz89 _)) (List.sublist_append_right Yz69 _)) (List.sublist_append_right Y89 _)) (List.sublist_append_right Y69 _)))))))) hf22.2; rw [decide_eq_true (hE22.symm)] at this; exact this) ?_))))
      refine qo0 2 [] [5, 8, 9, 11, 12, 21, 22, 23] [(66, .bool false)] (on_ (ds_ (f_ (at_skip (ds_ (sq_ (ao_ (qo0 1 [(0, .go (owns 0 0 1))] [5, 8, 9, 11, 12, 21, 22, 23] [(67, .agg #[.slice q89 n89 c89])] (cP (fun v L' => ∃ q_ n_ c_ Y_ Z_ bl_, v = .agg #[.slice q_ n_ c_] ∧ L' = List.take 5 (bx (γ189 0) (#[.slice q89 n89 c89]) 38 :: bx (γ26 0) (#[.slice q25 n25 c25]) 38 :: bx (γ23 0) (#[.slice q22 n22 c22]) 38 :: bx (γ15 0) (#[.int .i64 x14.kind, .int .i64 x14.a, .slice x14.p x14.n x14.cap]) 54 :: bx (γ6 0) (#[.slice q0 n0 c0]) 38 :: (Y69 ++ (Y89 ++ (Yz69 ++ (Yz89 ++ (Y25 ++ (Yz25 ++ (Y22 ++ (Yz22 ++ (Y0 ++ (Yz0 ++ []))))))))))) ++ (Y_ ++ (Z_ ++ List.drop 5 (bx (γ189 0) (#[.slice q89 n89 c89]) 38 :: bx (γ26 0) (#[.slice q25 n25 c25]) 38 :: bx (γ23 0) (#[.slice q22 n22 c22]) 38 :: bx (γ15 0) (#[.int .i64 x14.kind, .int .i64 x14.a, .slice x14.p x14.n x14.cap]) 54 :: bx (γ6 0) (#[.slice q0 n0 c0]) 38 :: (Y69 ++ (Y89 ++ (Yz69 ++ (Yz89 ++ (Y25 ++ (Yz25 ++ (Y22 ++ (Yz22 ++ (Y0 ++ (Yz0 ++ []))))))))))))) ∧ SlO 46 Y_ q_ n_ c_ bl_ ∧ GotG 3 Z_ bl_ ∧ bl_.map GngA.val = (bl89.map GngA.val)) Try.call28 (fun w hw => (rcopy_t q89 n89 c89 bl89 w (SlO.sub hO89 hw (List.Sublist.cons _ (List.Sublist.cons _ (List.Sublist.cons _ (List.Sublist.cons _ (List.Sublist.cons _ (List.Sublist.trans (List.sublist_append_left Y89 _) (List.sublist_append_right Y69 _)))))))) hO89.len (by have := hO89.len; have := hf89.1; omega) (GotG.reads hG89 hw (List.Sublist.cons _ (List.Sublist.cons _ (List.Sublist.cons _ (List.Sublist.cons _ (List.Sublist.cons _ (List.Sublist.trans (List.Sublist.trans (List.Sublist.trans (List.sublist_append_left Yz89 _) (List.sublist_append_right Yz69 _)) (List.sublist_append_right Y89 _)) (List.sublist_append_right Y69 _)))))))) hf89.2).mono fun e w' ⟨q_, n_, c_, Y_, bl_, Z_, he, hO, hG, hB, hb, hY⟩ => ⟨_, _, he, ⟨q_, n_, c_, Y_, Z_, bl_, rfl, rfl, hO, hG, hB⟩, hs_re (hw.join hb hY 5)⟩) ?_)))))))))
      rintro v318 L318 ⟨q318, n318, c318, Y318, Yz318, bl318, rfl, rfl, hO318, hG318, hB318⟩
      refine mo0 1 [(2, .go (owns 0 0 1))] [5, 8, 9, 11, 12, 21, 22, 23] (fun _ => []) (fun _ L => (L.set 0 (bx (γ189 0) (#[.slice q318 n318 c318]) 38))) (fun _ => on_ (ds_ (sq_ (sq_ (qa0 [(1, .go (owns 1 0 1))] [5, 8, 9, 11, 12, 21, 22, 23] [(71, .int .i64 (n25 : Nat)), (72, .int .i64 0)] (ds_ (at_block ?_)))))))
      have hlr9 := hO25.len
      refine At.pick [[bx (γ189 0) (#[.slice q318 n318 c318]) 38], [bx (γ26 0) (#[.slice q25 n25 c25]) 38], [bx (γ23 0) (#[.slice q22 n22 c22]) 38], [bx (γ15 0) (#[.int .i64 x14.kind, .int .i64 x14.a, .slice x14.p x14.n x14.cap]) 54], [bx (γ6 0) (#[.slice q0 n0 c0]) 38], Y318, Yz318, Y69, Y89, Yz69, Yz89, Y25, Yz25, Y22, Yz22, Y0, Yz0] [1, 0, 2, 4, 11, 12, 5, 6, 13, 14, 15, 16] [3, 7, 8, 9, 10] (bx (γ26 0) (#[.slice q25 n25 c25]) 38 :: bx (γ189 0) (#[.slice q318 n318 c318]) 38 :: bx (γ23 0) (#[.slice q22 n22 c22]) 38 :: bx (γ6 0) (#[.slice q0 n0 c0]) 38 :: (Y25 ++ (Yz25 ++ (Y318 ++ (Yz318 ++ (Y22 ++ (Yz22 ++ (Y0 ++ (Yz0 ++ []))))))))) (by kernel_rfl) rfl rfl (at_loop (α := Nat × List GngA × List Ob × Option Addr × Nat × List Ob) [5, 8, 9, 11, 12, 21, 22, 23, 71, 72] (fun ⟨k, lh, Yh, qh, ch, Yi⟩ => [(5, .pointer (some ⟨γ6 0, 0, none⟩)), (8, .pointer (some ⟨γ23 0, 0, none⟩)), (9, .pointer (some ⟨γ26 0, 0, none⟩)), (11, .int .i64 ((runG (bl0.map GngA.val) x14).2.2)), (12, .pointer (some ⟨γ189 0, 0, none⟩)), (21, .slice (some ⟨b12, o12, none⟩) no co), (22, .int .i64 (no : Nat)), (23, .int .i64 (j : Nat)), (71, .int .i64 (n25 : Nat)), (72, .int .i64 (k : Nat))]) (fun ⟨k, lh, Yh, qh, ch, Yi⟩ => bx (γ26 0) (#[.slice qh n25 ch]) 38 :: bx (γ189 0) (#[.slice q318 n318 c318]) 38 :: bx (γ23 0) (#[.slice q22 n22 c22]) 38 :: bx (γ6 0) (#[.slice q0 n0 c0]) 38 :: (Yh ++ (Yi ++ (Y318 ++ (Yz318 ++ (Y22 ++ (Yz22 ++ (Y0 ++ (Yz0 ++ []))))))))) (fun ⟨k, lh, Yh, qh, ch, Yi⟩ => k ≤ n25 ∧ SlO 46 Yh qh n25 ch lh ∧ GotG 3 Yi lh) (fun ⟨k, lh, Yh, qh, ch, Yi⟩ => n25 - k) (0, bl25, Y25, q25, c25, Yz25) (by kernel_rfl) rfl ⟨Nat.zero_le _, hO25, hG25⟩ ?_)
      rintro ⟨k, lh, Yh, qh, ch, Yi⟩
      rintro ⟨hk, hOh, hGh⟩
      have hlh := hOh.len
      refine sq_ ?_
      by_cases q322 : ((k : Nat) : Int) < ((n25 : Nat) : Int)
      ·
        refine qa [(0, .yes)] [5, 8, 9, 11, 12, 21, 22, 23, 71, 72] [(73, .bool true)] ([((k : Nat) : Int) < ((n25 : Nat) : Int)]) (al1 q322) (ds_ (sq_ (t_ (at_skip (ds_ (sq_ (at_block (sq_ (qa0 [] [5, 8, 9, 11, 12, 21, 22, 23, 71, 72] [(15, .int .i64 (k : Nat))] (ds_ (sq_ ?_)))))))))))
        have hln326 := hOh.len
        obtain ⟨g326, cs326, rfl, rfl, hOw326⟩ := hOh.rowOf (i := k) (by omega)
        obtain ⟨x328, hx328⟩ := get_some (l := lh) (m := k) (by omega)
        refine qa [(1, .go (owns 0 0 1)), (3, .at g326 0 k), (5, .go (ownps 4 (0 + k * 2 + 1) [.slice x328.p x328.n x328.cap]))] [5, 8, 9, 11, 12, 15, 21, 22, 23, 71, 72] [(81, .int .i64 (x328.n : Nat)), (82, .int .i64 0)] ([(some ⟨g326, 0, none⟩ : Option Addr) = some ⟨g326, 0, none⟩, (k : Nat) = ((k : Nat) : Int), k < n25] ++ (acellsP cs326 (0 + k * 2 + 1) [.slice x328.p x328.n x328.cap])) (alA (al2 rfl (al2 rfl (al1 (by omega)))) (rda_part (hOw326.rdx hOh.len hx328) 1 _ rfl)) (ds_ (at_block ?_))
        obtain ⟨Ya5, Yx5, Yb5, rfl, hOx5, hcut5⟩ := hGh.cutG hx328
        have hnx9 : x328.n = x328.l.length := hOx5.facts.1
        have hfx9 := hOx5.facts.2
        refine At.as (L' := bx (γ26 0) (#[.slice (some ⟨g326, 0, none⟩) n25 ch]) 38 :: bx (γ189 0) (#[.slice q318 n318 c318]) 38 :: bx (γ23 0) (#[.slice q22 n22 c22]) 38 :: bx (γ6 0) (#[.slice q0 n0 c0]) 38 :: bx g326 cs326 46 :: (Ya5 ++ (Yx5 ++ (Yb5 ++ (Y318 ++ (Yz318 ++ (Y22 ++ (Yz22 ++ (Y0 ++ (Yz0 ++ [])))))))))) (by simp only [List.append_assoc, List.cons_append, List.nil_append]) (At.pick [[bx (γ26 0) (#[.slice (some ⟨g326, 0, none⟩) n25 ch]) 38], [bx (γ189 0) (#[.slice q318 n318 c318]) 38], [bx (γ23 0) (#[.slice q22 n22 c22]) 38], [bx (γ6 0) (#[.slice q0 n0 c0]) 38], [bx g326 cs326 46], Ya5, Yx5, Yb5, Y318, Yz318, Y22, Yz22, Y0, Yz0] [0, 1, 2, 3, 4, 5, 6, 7, 8, 9, 10, 11, 12, 13] [] (bx (γ26 0) (#[.slice (some ⟨g326, 0, none⟩) n25 ch]) 38 :: bx (γ189 0) (#[.slice q318 n318 c318]) 38 :: bx (γ23 0) (#[.slice q22 n22 c22]) 38 :: bx (γ6 0) (#[.slice q0 n0 c0]) 38 :: bx g326 cs326 46 :: (Ya5 ++ (Yx5 ++ (Yb5 ++ (Y318 ++ (Yz318 ++ (Y22 ++ (Yz22 ++ (Y0 ++ (Yz0 ++ [])))))))))) (by kernel_rfl) rfl rfl (at_loop (α := Nat × Option Addr × List Ob × List Int) [5, 8, 9, 11, 12, 15, 21, 22, 23, 71, 72, 81, 82] (fun ⟨i, pm, Ym, lm⟩ => [(5, .pointer (some ⟨γ6 0, 0, none⟩)), (8, .pointer (some ⟨γ23 0, 0, none⟩)), (9, .pointer (some ⟨γ26 0, 0, none⟩)), (11, .int .i64 ((runG (bl0.map GngA.val) x14).2.2)), (12, .pointer (some ⟨γ189 0, 0, none⟩)), (15, .int .i64 (k : Nat)), (21, .slice (some ⟨b12, o12, none⟩) no co), (22, .int .i64 (no : Nat)), (23, .int .i64 (j : Nat)), (71, .int .i64 (n25 : Nat)), (72, .int .i64 (k : Nat)), (81, .int .i64 (x328.n : Nat)), (82, .int .i64 (i : Nat))]) (fun ⟨i, pm, Ym, lm⟩ => bx (γ26 0) (#[.slice (some ⟨g326, 0, none⟩) n25 ch]) 38 :: bx (γ189 0) (#[.slice q318 n318 c318]) 38 :: bx (γ23 0) (#[.slice q22 n22 c22]) 38 :: bx (γ6 0) (#[.slice q0 n0 c0]) 38 :: bx g326 cs326 46 :: (Ya5 ++ (Ym ++ (Yb5 ++ (Y318 ++ (Yz318 ++ (Y22 ++ (Yz22 ++ (Y0 ++ (Yz0 ++ [])))))))))) (fun ⟨i, pm, Ym, lm⟩ => i ≤ x328.n ∧ pm = x328.p ∧ SlO 3 Ym pm x328.n x328.cap lm) (fun ⟨i, pm, Ym, lm⟩ => x328.n - i) (0, x328.p, Yx5, x328.l) (by kernel_rfl) rfl ⟨Nat.zero_le _, rfl, hOx5⟩ ?_))
        rintro ⟨i, pm, Ym, lm⟩
        rintro ⟨hi, hpm, hOm⟩
        have hlm := hOm.len
        refine sq_ ?_
        by_cases q331 : ((i : Nat) : Int) < ((x328.n : Nat) : Int)
        ·
          refine qa [(0, .yes)] [5, 8, 9, 11, 12, 15, 21, 22, 23, 71, 72, 81, 82] [(83, .bool true)] ([((i : Nat) : Int) < ((x328.n : Nat) : Int)]) (al1 q331) (ds_ (sq_ (t_ (at_skip (ds_ (sq_ (at_block (sq_ (qa0 [] [5, 8, 9, 11, 12, 15, 21, 22, 23, 71, 72, 81, 82] [(16, .int .i64 (i : Nat))] (ds_ (At.pick [[bx (γ26 0) (#[.slice (some ⟨g326, 0, none⟩) n25 ch]) 38], [bx (γ189 0) (#[.slice q318 n318 c318]) 38], [bx (γ23 0) (#[.slice q22 n22 c22]) 38], [bx (γ6 0) (#[.slice q0 n0 c0]) 38], [bx g326 cs326 46], Ya5, Ym, Yb5, Y318, Yz318, Y22, Yz22, Y0, Yz0] [0, 1, 2, 3, 4, 6, 5, 7, 8, 9, 10, 11, 12, 13] [] (bx (γ26 0) (#[.slice (some ⟨g326, 0, none⟩) n25 ch]) 38 :: bx (γ189 0) (#[.slice q318 n318 c318]) 38 :: bx (γ23 0) (#[.slice q22 n22 c22]) 38 :: bx (γ6 0) (#[.slice q0 n0 c0]) 38 :: bx g326 cs326 46 :: (Ym ++ (Ya5 ++ (Yb5 ++ (Y318 ++ (Yz318 ++ (Y22 ++ (Yz22 ++ (Y0 ++ (Yz0 ++ [])))))))))) (by kernel_rfl) rfl rfl ?_)))))))))))
          have hln334 := hOm.len
          obtain ⟨g334, cs334, rfl, rfl, hOw334⟩ := hOm.rowOf (i := i) (by omega)
          obtain ⟨x336, hx336⟩ := get_some (l := lm) (m := i) (by omega)
          refine ma [(1, .go (owns 0 0 1)), (3, .at g326 0 k), (5, .is (ownps 4 (0 + k * 2 + 1) [.slice x328.p x328.n x328.cap]) (.slice (some ⟨g334, 0, none⟩) x328.n x328.cap)), (7, .at g334 0 i), (8, .go (ownps 5 (0 + i * 1) [undef]))] [5, 8, 9, 11, 12, 15, 21, 22, 23, 71, 72, 81, 82] (fun _ => []) (fun _ L => (L.set 5 (bx g334 ((cs334).setIfInBounds (0 + i * 1) (.int .i64 99)) 3))) (fun _ => [(some ⟨g326, 0, none⟩ : Option Addr) = some ⟨g326, 0, none⟩, (k : Nat) = ((k : Nat) : Int), k < n25] ++ ([Value.slice x328.p x328.n x328.cap = .slice (some ⟨g334, 0, none⟩) x328.n x328.cap] ++ (acellsP cs326 (0 + k * 2 + 1) [.slice x328.p x328.n x328.cap] ++ ([(some ⟨g334, 0, none⟩ : Option Addr) = some ⟨g334, 0, none⟩, (i : Nat) = ((i : Nat) : Int), i < x328.n] ++ ([0 + i * 1 < (cs334).size]))))) (fun _ => (alA (al2 rfl (al2 rfl (al1 (by omega)))) (alA (al1 (by rw [hpm])) (alA (rda_part (hOw326.rdx hOh.len hx328) 1 _ rfl) (alA (al2 rfl (al2 rfl (al1 (by omega)))) (al1 (hOw334.room hOm.len hx336 (f := 0) (by decide)))))))) (fun _ => done_block (ds_ (qa [(0, .fit)] [5, 8, 9, 11, 12, 15, 21, 22, 23, 71, 72, 81] [(82, .int .i64 (i + 1 : Nat))] ([Fit .i64 ((i + 1 : Nat))]) (al1 (fit64 (by omega) (by omega))) (Done.pick [[bx (γ26 0) (#[.slice (some ⟨g326, 0, none⟩) n25 ch]) 38], [bx (γ189 0) (#[.slice q318 n318 c318]) 38], [bx (γ23 0) (#[.slice q22 n22 c22]) 38], [bx (γ6 0) (#[.slice q0 n0 c0]) 38], [bx g326 cs326 46], [bx g334 ((cs334).setIfInBounds (0 + i * 1) (.int .i64 99)) 3], Ya5, Yb5, Y318, Yz318, Y22, Yz22, Y0, Yz0] [0, 1, 2, 3, 4, 6, 5, 7, 8, 9, 10, 11, 12, 13] [] (bx (γ26 0) (#[.slice (some ⟨g326, 0, none⟩) n25 ch]) 38 :: bx (γ189 0) (#[.slice q318 n318 c318]) 38 :: bx (γ23 0) (#[.slice q22 n22 c22]) 38 :: bx (γ6 0) (#[.slice q0 n0 c0]) 38 :: bx g326 cs326 46 :: (Ya5 ++ ([bx g334 ((cs334).setIfInBounds (0 + i * 1) (.int .i64 99)) 3] ++ (Yb5 ++ (Y318 ++ (Yz318 ++ (Y22 ++ (Yz22 ++ (Y0 ++ (Yz0 ++ [])))))))))) (by kernel_rfl) rfl rfl ?_))))
          exact dr [5, 8, 9, 11, 12, 15, 21, 22, 23, 71, 72, 81, 82] (i + 1, some ⟨g334, 0, none⟩, [bx g334 ((cs334).setIfInBounds (0 + i * 1) (.int .i64 99)) 3], lm.set i 99) ⟨by omega, hpm, (SlO.ofOwn (hOw334.put (x' := 99) hOm.len hx336 (f := 0) (by decide) rfl) (len_set hOm.len))⟩
        ·
          refine qa [(0, .no)] [5, 8, 9, 11, 12, 15, 21, 22, 23, 71, 72, 81, 82] [(83, .bool false)] ([¬ (((i : Nat) : Int) < ((x328.n : Nat) : Int))]) (al1 q331) (ds_ (sq_ (f_ (at_leave _ rfl (done_block (ds_ (qa [(0, .fit)] [5, 8, 9, 11, 12, 21, 22, 23, 71] [(72, .int .i64 (k + 1 : Nat))] ([Fit .i64 ((k + 1 : Nat))]) (al1 (fit64 (by omega) (by omega))) (Done.as (L' := bx (γ26 0) (#[.slice (some ⟨g326, 0, none⟩) n25 ch]) 38 :: bx (γ189 0) (#[.slice q318 n318 c318]) 38 :: bx (γ23 0) (#[.slice q22 n22 c22]) 38 :: bx (γ6 0) (#[.slice q0 n0 c0]) 38 :: ([bx g326 cs326 46] ++ ((Ya5 ++ (Ym ++ Yb5)) ++ (Y318 ++ (Yz318 ++ (Y22 ++ (Yz22 ++ (Y0 ++ (Yz0 ++ []))))))))) (by simp only [List.append_assoc, List.cons_append, List.nil_append]) ?_))))))))
          subst hpm
          exact dr [5, 8, 9, 11, 12, 21, 22, 23, 71, 72] (k + 1, lh.set k (⟨x328.id, x328.p, x328.n, x328.cap, lm⟩ : GngA), ([bx g326 cs326 46]), (some ⟨g326, 0, none⟩), ch, Ya5 ++ (Ym ++ Yb5)) ⟨by omega, SlO.retag hOh hx328 rfl, hcut5 _ (⟨x328.id, x328.p, x328.n, x328.cap, lm⟩ : GngA) hOm⟩
      ·
        refine qa [(0, .no)] [5, 8, 9, 11, 12, 21, 22, 23, 71, 72] [(73, .bool false)] ([¬ (((k : Nat) : Int) < ((n25 : Nat) : Int))]) (al1 q322) (ds_ (sq_ (f_ (at_leave _ rfl (ds_ (sq_ (sq_ (ao_ (qo0 2 [(0, .go (owns 3 0 1)), (1, .go (owns 2 0 1))] [5, 11, 12, 21, 22, 23] [(95, .agg #[.slice q0 n0 c0]), (96, .agg #[.slice q22 n22 c22])] (cD (.bool true) Try.call20 (fun w hw => by have := rsame_t q0 n0 c0 bl0 q22 n22 c22 bl22 w (SlO.sub hO0 hw (List.Sublist.cons _ (List.Sublist.cons _ (List.Sublist.cons _ (List.Sublist.cons _ (List.Sublist.trans (List.Sublist.trans (List.Sublist.trans (List.Sublist.trans (List.Sublist.trans (List.Sublist.trans (List.sublist_append_left Y0 _) (List.sublist_append_right Yz22 _)) (List.sublist_append_right Y22 _)) (List.sublist_append_right Yz318 _)) (List.sublist_append_right Y318 _)) (List.sublist_append_right Yi _)) (List.sublist_append_right Yh _))))))) hO0.len (by have := hO0.len; have := hf0.1; omega) (GotG.reads hG0 hw (List.Sublist.cons _ (List.Sublist.cons _ (List.Sublist.cons _ (List.Sublist.cons _ (List.Sublist.trans (List.Sublist.trans (List.Sublist.trans (List.Sublist.trans (List.Sublist.trans (List.Sublist.trans (List.Sublist.trans (List.sublist_append_left Yz0 _) (List.sublist_append_right Y0 _)) (List.sublist_append_right Yz22 _)) (List.sublist_append_right Y22 _)) (List.sublist_append_right Yz318 _)) (List.sublist_append_right Y318 _)) (List.sublist_append_right Yi _)) (List.sublist_append_right Yh _))))))) hf0.2 (SlO.sub hO22 hw (List.Sublist.cons _ (List.Sublist.cons _ (List.Sublist.cons _ (List.Sublist.cons _ (List.Sublist.trans (List.Sublist.trans (List.Sublist.trans (List.Sublist.trans (List.sublist_append_left Y22 _) (List.sublist_append_right Yz318 _)) (List.sublist_append_right Y318 _)) (List.sublist_append_right Yi _)) (List.sublist_append_right Yh _))))))) hO22.len (by have := hO22.len; have := hf22.1; omega) (GotG.reads hG22 hw (List.Sublist.cons _ (List.Sublist.cons _ (List.Sublist.cons _ (List.Sublist.cons _ (List.Sublist.trans (List.Sublist.trans (List.Sublist.trans (List.Sublist.trans (List.Sublist.trans (List.sublist_append_left Yz22 _) (List.sublist_append_right Y22 _)) (List.sublist_append_right Yz318 _)) (List.sublist_append_right Y318 _)) (List.sublist_append_right Yi _)) (List.sublist_append_right Yh _))))))) hf22.2; rw [decide_eq_true (hE22.symm)] at this; exact this) (qo0 1 [] [5, 11, 12, 21, 22, 23] [(98, .bool false)] (on_ (ds_ (f_ (at_skip (ds_ (sq_ ?_)))))))))))))))))
        by_cases q345 : ((runG (bl0.map GngA.val) x14).2.2 : Int) = (0 : Int)
        ·
          refine qa [(1, .yes)] [5, 12, 21, 22, 23] [(100, .bool true)] ([((runG (bl0.map GngA.val) x14).2.2 : Int) = (0 : Int)]) (al1 q345) (ds_ (t_ (ma0 [(0, .go (owns 1 0 1)), (1, .go (owns 3 0 1))] [5, 21, 22, 23] (fun _ => []) (fun _ L => (L.set 3 (bx (γ6 0) (#[.slice q318 n318 c318]) 38))) (fun _ => done_block (ds_ (qa [(0, .fit)] [5, 21, 22] [(23, .int .i64 (j + 1 : Nat))] ([Fit .i64 ((j + 1 : Nat))]) (al1 (fit64 (by omega) (by omega))) (Done.pick [[bx (γ26 0) (#[.slice qh n25 ch]) 38], [bx (γ189 0) (#[.slice q318 n318 c318]) 38], [bx (γ23 0) (#[.slice q22 n22 c22]) 38], [bx (γ6 0) (#[.slice q318 n318 c318]) 38], Yh, Yi, Y318, Yz318, Y22, Yz22, Y0, Yz0] [3, 6, 7] [0, 1, 2, 4, 5, 8, 9, 10, 11] (bx (γ6 0) (#[.slice q318 n318 c318]) 38 :: (Y318 ++ (Yz318 ++ []))) (by kernel_rfl) rfl rfl ?_)))))))
          exact dr [5, 21, 22, 23] (j + 1, bl318, Y318, q318, n318, c318, Yz318) ⟨by omega, hO318, hG318, (by rw [hB318, hB89]; exact run_small)⟩
        ·
          refine qa [(1, .no)] [5, 12, 21, 22, 23] [(100, .bool false)] ([¬ (((runG (bl0.map GngA.val) x14).2.2 : Int) = (0 : Int))]) (al1 q345) (ds_ (f_ (at_skip (done_block (ds_ (qa [(0, .fit)] [5, 21, 22] [(23, .int .i64 (j + 1 : Nat))] ([Fit .i64 ((j + 1 : Nat))]) (al1 (fit64 (by omega) (by omega))) (Done.pick [[bx (γ26 0) (#[.slice qh n25 ch]) 38], [bx (γ189 0) (#[.slice q318 n318 c318]) 38], [bx (γ23 0) (#[.slice q22 n22 c22]) 38], [bx (γ6 0) (#[.slice q0 n0 c0]) 38], Yh, Yi, Y318, Yz318, Y22, Yz22, Y0, Yz0] [3, 10, 11] [0, 1, 2, 4, 5, 6, 7, 8, 9] (bx (γ6 0) (#[.slice q0 n0 c0]) 38 :: (Y0 ++ (Yz0 ++ []))) (by kernel_rfl) rfl rfl ?_)))))))
          exact dr [5, 21, 22, 23] (j + 1, bl0, Y0, q0, n0, c0, Yz0) ⟨by omega, hO0, hG0, hS0⟩
  ·
    refine qa [(0, .no)] [5, 21, 22, 23] [(24, .bool false)] ([¬ (((j : Nat) : Int) < ((no : Nat) : Int))]) (al1 q9) (ds_ (sq_ (f_ (at_leave _ rfl (ds_ (sq_ (qa0 [] [] [(4, .bool true)] (ds_ (rt ([]) (.bool true) ?_)))))))))
    exact fun w' hw => ⟨rfl, hw.below⟩
end Go.Proofs.Ytahccegfahghfaa

/-! The walker: what a row's inputs are: slices and structs, opened into lists. -/
namespace Go.Proofs.Ytahccegfahghfaa
open Go Go.RowKit

section
variable {H : Type} {enc : TypeId × Value → H} {P : Program} {w : World} {base : Nat} {spare : Nat → Bool} {held : Bool}
theorem spot_none {a : Addr} (h : a.spot = none) : a = ⟨a.block, a.off, none⟩ := by
  cases a
  simp at h
  simp [h]
theorem trod_sv {α : Type} [Enc α] {t e : TypeId} {fuel : Nat} {cs : List Value} {x : DataW H × List MemPlace} {Good : α → Prop} (ht : P.underlying t = some (.slice e)) (hc : P.cellsOf e = Enc.k α)
    (hopen : ∀ (fuel : Nat) (cs : List Value) (x : DataW H × List MemPlace), DataW.trod enc P w base spare held fuel e cs = some x → ∃ a : α, cs = Enc.enc a ∧ Good a) (h : DataW.trod enc P w base spare held fuel t cs = some x) :
    ∃ (p : Option Addr) (n cap : Nat) (l : List α), cs = [.slice p n cap] ∧ Sv w p l ∧ n = l.length ∧ n ≤ cap ∧ cap ≤ maxLen ∧ ∀ y ∈ l, Good y := by
  rcases Deep.open_slice ht h with ⟨hcs, _⟩ | ⟨a, len, cap, m, n', D, Pl, hcs, _, hle, hmx, hm, _, hi⟩
  · exact ⟨none, 0, 0, [], hcs, Sv.nil, rfl, Nat.le_refl _, Nat.zero_le _, fun y hy => by cases hy⟩
  · have key : ∀ i, i < len → ∃ y : α, w.cells? base (a.add (i * Enc.k α)) (Enc.k α) = some (Enc.enc y) ∧ Good y := fun i hin => by
      have him : i < m := by rw [hm]; split <;> omega
      obtain ⟨cs', h1, h2⟩ := hi i him
      obtain ⟨y, rfl, hy⟩ := hopen _ _ _ h2
      rw [hc] at h1
      exact ⟨y, h1, hy⟩
    rcases Nat.eq_zero_or_pos len with h0 | h0
    · subst h0
      exact ⟨some a, 0, cap, [], hcs, Sv.nil, rfl, hle, hmx, fun y hy => by cases hy⟩
    · obtain ⟨y0, hy0, _⟩ := key 0 h0
      haveI : Inhabited α := ⟨y0⟩
      obtain ⟨f, hf⟩ := Deep.choose_lt key
      obtain ⟨_, _, hcell⟩ := World.cells?_some hy0
      have h00 := hcell 0 Enc.pos
      have hlen0 : 0 < (Enc.enc y0).length := by rw [Enc.len]; exact Enc.pos
      rw [List.getElem?_eq_getElem hlen0, Nat.zero_mul, show (a.add 0).add 0 = a by simp [Addr.add]] at h00
      have hsp := spot_none (World.cell?_spot h00)
      refine ⟨some a, len, cap, (List.range len).map f, hcs, ⟨fun _ => ⟨a.block, a.off, by rw [← hsp]⟩, fun b o hbo i hil => ?_⟩, by simp, hle, hmx, fun y hy => ?_⟩
      · have hil' : i < len := by simpa using hil
        obtain ⟨_, _, hc2⟩ := World.cells?_some (hf i hil').1
        have ha : a = ⟨b, o, none⟩ := by simpa using hbo
        subst ha
        intro j v hj
        have hjk : j < Enc.k α := by rw [← Enc.len (f i)]; have := (List.getElem?_eq_some_iff.1 hj).1; simpa using this
        have h3 := hc2 j hjk
        rw [Deep.add_add] at h3
        have h4 : (Enc.enc (f i))[j]? = some v := by simpa using hj
        rw [h4] at h3
        have h5 : (⟨b, o, none⟩ : Addr).add (i * Enc.k α + j) = ⟨b, o + i * Enc.k α + j, none⟩ := by
          unfold Addr.add; split <;> simp_all <;> omega
        rw [h5] at h3
        exact h3
      · obtain ⟨i, hir, rfl⟩ := List.mem_map.1 hy
        exact (hf i (List.mem_range.1 hir)).2
theorem trod_int1 {t : TypeId} {fuel : Nat} {cs : List Value} {x : DataW H × List MemPlace} (ht : P.underlying t = some (.int .i64)) (h : DataW.trod enc P w base spare held fuel t cs = some x) : ∃ a : Int, cs = Enc.enc a ∧ True := by
  obtain ⟨a, rfl, _, _⟩ := DataW.trod_int ht h
  exact ⟨a, rfl, trivial⟩
end
end Go.Proofs.Ytahccegfahghfaa

/-! Chapter 14: rows of rows, opened. -/
namespace Go.Proofs.Ytahccegfahghfaa
open Go Go.RowKit Go.ChangeShapes Go.WideShapes

section
variable {H : Type} {enc : TypeId × Value → H} {w : World} {base : Nat} {spare : Nat → Bool} {held : Bool}
theorem cIntT : Try.prog.cellsOf 3 = 1 := by kernel_rfl
theorem cIntsT : Try.prog.cellsOf 25 = 1 := by kernel_rfl
set_option maxRecDepth 100000 in
theorem intsA_open {fuel : Nat} {cs : List Value} {x : DataW H × List MemPlace} (h : DataW.trod enc Try.prog w base spare held fuel 25 cs = some x) : ∃ a : IntsA, cs = Enc.enc a ∧ a.Reads w := by
  obtain ⟨p, m, cap, l, he, hs, hn, hle, hmx, _⟩ := trod_sv (α := Int) (Good := fun _ => True) Try.underlying25 cIntT (fun _ _ _ h => trod_int1 Try.underlying3 h) h
  exact ⟨⟨p, m, cap, l⟩, he, ⟨hs, hn, hle, hmx⟩⟩
end
end Go.Proofs.Ytahccegfahghfaa

/-! Chapter 14: gangs and ops, opened. -/
namespace Go.Proofs.Ytahccegfahghfaa
open Go Go.RowKit Go.ChangeShapes Go.WideShapes
theorem list1V {α : Type} {cs : List α} (h : cs.length = 1) : ∃ a, cs = [a] := by
  match cs, h with
  | [a], _ => exact ⟨a, rfl⟩
theorem list2V {α : Type} {cs : List α} (h : cs.length = 2) : ∃ a b, cs = [a, b] := by
  match cs, h with
  | [a, b], _ => exact ⟨a, b, rfl⟩
theorem list3V {α : Type} {cs : List α} (h : cs.length = 3) : ∃ a b c, cs = [a, b, c] := by
  match cs, h with
  | [a, b, c], _ => exact ⟨a, b, c, rfl⟩

section
variable {H : Type} {enc : TypeId × Value → H} {w : World} {base : Nat} {spare : Nat → Bool} {held : Bool}
theorem cGangT : Try.prog.cellsOf 46 = 2 := by kernel_rfl
theorem cGangsT : Try.prog.cellsOf 38 = 1 := by kernel_rfl
theorem cGangRT : Try.prog.cellsOf 36 = 1 := by kernel_rfl
theorem cOpT : Try.prog.cellsOf 54 = 3 := by kernel_rfl
set_option maxRecDepth 100000 in
theorem gng_open {fuel : Nat} {cs : List Value} {x : DataW H × List MemPlace} (h : DataW.trod enc Try.prog w base spare held fuel 46 cs = some x) : ∃ a : GngA, cs = Enc.enc a ∧ a.Reads w := by
  obtain ⟨xs, n, _, rfl, hl, hlen, hf⟩ := DataW.trod_struct Try.underlying46 h
  rw [cGangT] at hl
  obtain ⟨c0, c1, rfl⟩ := list2V hl
  obtain ⟨y0, y1, rfl⟩ := list2V hlen
  have h0 : DataW.trod enc Try.prog w base spare held n 3 (([c0, c1].drop 0).take (Try.prog.cellsOf 3)) = some y0 := hf 0 _ rfl
  have h1 : DataW.trod enc Try.prog w base spare held n 25 (([c0, c1].drop 1).take (Try.prog.cellsOf 25)) = some y1 := hf 1 _ rfl
  clear hf hl hlen h
  rw [cIntT] at h0
  rw [cIntsT] at h1
  simp only [List.drop_zero, List.take_succ_cons, List.take_zero, List.drop_succ_cons] at h0 h1
  obtain ⟨a, ea, _, _⟩ := DataW.trod_int Try.underlying3 h0
  obtain ⟨b, eb, hb⟩ := intsA_open h1
  have eb2 : [c1] = [Value.slice b.p b.n b.cap] := eb
  simp only [List.cons.injEq, and_true] at ea eb2
  subst ea; subst eb2
  exact ⟨⟨a, b.p, b.n, b.cap, b.l⟩, rfl, hb⟩
set_option maxRecDepth 100000 in
theorem gngs_open {fuel : Nat} {cs : List Value} {x : DataW H × List MemPlace} (h : DataW.trod enc Try.prog w base spare held fuel 38 cs = some x) : ∃ a : GngsA, cs = Enc.enc a ∧ a.Reads w := by
  obtain ⟨xs, n, _, rfl, hl, hlen, hf⟩ := DataW.trod_struct Try.underlying38 h
  rw [cGangsT] at hl
  obtain ⟨c0, rfl⟩ := list1V hl
  obtain ⟨y0, rfl⟩ := list1V hlen
  have h0 : DataW.trod enc Try.prog w base spare held n 36 (([c0].drop 0).take (Try.prog.cellsOf 36)) = some y0 := hf 0 _ rfl
  clear hf hl hlen h
  rw [cGangRT] at h0
  simp only [List.drop_zero, List.take_succ_cons, List.take_zero] at h0
  obtain ⟨p, m, cap, l, he, hs, hn, hle, hmx, hg⟩ := trod_sv (α := GngA) Try.underlying36 cGangT (fun _ _ _ h => gng_open h) h0
  simp only [List.cons.injEq, and_true] at he
  subst he
  exact ⟨⟨p, m, cap, l⟩, rfl, ⟨hs, hn, hle, hmx, hg⟩⟩
set_option maxRecDepth 100000 in
theorem gngsv_open {v : Value} {d : DataW H} {pl : List MemPlace} (hv : Value.okWide Try.prog w .any base 38 v) (h : DataW.Trod enc Try.prog w 0 spare held 38 v d pl) :
    ∃ (q : Option Addr) (m cap : Nat) (l : List GngA), v = .agg #[.slice q m cap] ∧ Sv w q l ∧ m = l.length ∧ m ≤ cap ∧ cap ≤ 9223372036854775807 ∧ ∀ x ∈ l, x.Reads w := by
  obtain ⟨cs, rfl, hsz⟩ := okWide_struct Try.underlying38 hv
  obtain ⟨fuel, hf⟩ := h
  obtain ⟨a, ea, ha⟩ := gngs_open hf
  have hc : (Value.agg cs).cells.toList = [Value.slice a.p a.n a.cap] := ea
  refine ⟨a.p, a.n, a.cap, a.l, ?_, ha.sv, ha.hn, ha.hc, ha.hb, ha.hi⟩
  congr 1
  exact Array.toList_inj.1 (by simpa [Value.cells] using hc)
set_option maxRecDepth 100000 in
theorem opg_open {fuel : Nat} {cs : List Value} {x : DataW H × List MemPlace} (h : DataW.trod enc Try.prog w base spare held fuel 54 cs = some x) : ∃ a : OpG, cs = Enc.enc a ∧ a.Reads w := by
  obtain ⟨xs, n, _, rfl, hl, hlen, hf⟩ := DataW.trod_struct Try.underlying54 h
  rw [cOpT] at hl
  obtain ⟨c0, c1, c2, rfl⟩ := list3V hl
  obtain ⟨y0, y1, y2, rfl⟩ := list3V hlen
  have h0 : DataW.trod enc Try.prog w base spare held n 3 (([c0, c1, c2].drop 0).take (Try.prog.cellsOf 3)) = some y0 := hf 0 _ rfl
  have h1 : DataW.trod enc Try.prog w base spare held n 3 (([c0, c1, c2].drop 1).take (Try.prog.cellsOf 3)) = some y1 := hf 1 _ rfl
  have h2 : DataW.trod enc Try.prog w base spare held n 25 (([c0, c1, c2].drop 2).take (Try.prog.cellsOf 25)) = some y2 := hf 2 _ rfl
  clear hf hl hlen h
  rw [cIntT] at h0 h1
  rw [cIntsT] at h2
  simp only [List.drop_zero, List.take_succ_cons, List.take_zero, List.drop_succ_cons] at h0 h1 h2
  obtain ⟨a, ea, _, _⟩ := DataW.trod_int Try.underlying3 h0
  obtain ⟨a2, ea2, _, _⟩ := DataW.trod_int Try.underlying3 h1
  obtain ⟨b, eb, hb⟩ := intsA_open h2
  have eb2 : [c2] = [Value.slice b.p b.n b.cap] := eb
  simp only [List.cons.injEq, and_true] at ea ea2 eb2
  subst ea; subst ea2; subst eb2
  exact ⟨⟨a, a2, b.p, b.n, b.cap, b.l⟩, rfl, hb⟩
set_option maxRecDepth 100000 in
theorem opsg_open {v : Value} {d : DataW H} {pl : List MemPlace} (hv : Value.okWide Try.prog w .any base 52 v) (h : DataW.Trod enc Try.prog w 0 spare held 52 v d pl) :
    ∃ (q : Option Addr) (m cap : Nat) (l : List OpG), v = .slice q m cap ∧ Sv w q l ∧ m = l.length ∧ m ≤ cap ∧ cap ≤ 9223372036854775807 ∧ ∀ x ∈ l, x.Reads w := by
  obtain ⟨a, n, c, rfl⟩ := okWide_slice Try.underlying52 hv
  obtain ⟨fuel, hf⟩ := h
  obtain ⟨p, m, cap, l, he, hs, hn, hle, hmx, hg⟩ := trod_sv (α := OpG) Try.underlying52 cOpT (fun _ _ _ h => opg_open h) hf
  have : a = p ∧ n = m ∧ c = cap := by simpa [Value.cells] using he
  obtain ⟨rfl, rfl, rfl⟩ := this
  exact ⟨a, n, c, l, rfl, hs, hn, hle, hmx, hg⟩
end
end Go.Proofs.Ytahccegfahghfaa
