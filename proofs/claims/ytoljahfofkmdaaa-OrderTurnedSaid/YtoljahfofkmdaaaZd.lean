/- Texts of this proof, one behind the other. -/
import Derived.Test.YtoljahfofkmdaaaZc
import Derived.Test.YtoljahfofkmdaaaZb
import Derived.Test.YtoljahfofkmdaaaZa
import Derived.Scope
import Derived.ProofKit
import Derived.Carry
import Derived.Deep.Slices
import Derived.Lib.SmallJoins
import Derived.Test.YtoljahfofkmdaaaProg
/-! Order: all entities, in order. -/
namespace Go.Proofs.Ytoljahfofkmdaaa
open Go Go.RowKit

set_option maxRecDepth 100000 in
theorem ents_t (p : Option Addr) (n cap : Nat) (ts : List Rn) (pw : Option Addr) (nw capw : Nat) (ws : List Wt) (q : Option Addr) (m capq : Nat) (al : List IntsA) (w : World)
 (hts : Sv w p ts) (hn : n = ts.length) (hb : n ≤ 1000)
 (hU : ∀ r ∈ ts, r.U)
 (hws : Sv w pw ws) (hnw : nw = ws.length) (hbw : nw ≤ 1000)
 (hWU : ∀ x ∈ ws, x.U)
 (hal : Sv w q al) (hma : m = al.length) (hbm : m ≤ 1000) (hnm : ∀ x ∈ al, x.Reads w) (hm9 : ∀ x ∈ al, x.n ≤ 1000)
 : Calls Try.prog 12 #[.agg #[.slice p n cap], .slice pw nw capw, .slice q m capq] w fun e w' => ∃ q' n' c' Yo Yi el, e = .returned (.tuple #[.slice q' n' c', .int .i64 (chkO ts ws (al.map IntsA.l))]) ∧ SlO 47 Yo q' n' c' el ∧ GotE 3 Yi el ∧ el.map EnA.val = (if chkO ts ws (al.map IntsA.l) = 0 then docV ts ws (al.map IntsA.l) else []) ∧ (∀ x ∈ el, x.U) ∧ Below w.heap.size w w' ∧ Hs w (Yo ++ Yi) w' := by
 refine enter (Hs.start w) Try.func12 rfl Try.ntmps12 rfl (sq_ (ma0 [] [1, 2] (fun γ1 => [(3, .pointer (some ⟨γ1 0, 0, none⟩))]) (fun γ1 L => bx (γ1 0) (#[.slice p n cap]) 26 :: L) (fun γ1 => ds_ (sq_ (sq_ (ao_ (qo0 3 [(0, .go (owns 0 0 1))] [1, 2, 3] [(22, .agg #[.slice p n cap]), (23, .slice pw nw capw), (24, .slice q m capq)] (cD (.int .i64 (chkO ts ws (al.map IntsA.l))) Try.call13 (fun w hw => check_t p n cap ts pw nw capw ws q m capq al w (hts.kept hw.below) hn hb (hws.kept hw.below) hnw hbw (hal.kept hw.below) hma hbm (fun x hx => (hnm x hx).kept hw.below) hm9) (qo0 1 [] [1, 2, 3] [(8, .int .i64 (chkO ts ws (al.map IntsA.l)))] (on_ (ds_ (sq_ ?_))))))))))))
 by_cases q5 : ((chkO ts ws (al.map IntsA.l)) : Int) ≠ (0 : Int)
 ·
  refine qa [(1, .yes)] [1, 2, 3, 8] [(27, .bool true)] ([((chkO ts ws (al.map IntsA.l)) : Int) ≠ (0 : Int)]) (al1 q5) (ds_ (t_ (sq_ (qa0 [] [] [(6, .slice none 0 0), (7, .int .i64 (chkO ts ws (al.map IntsA.l)))] (ds_ (rt ([]) (.tuple #[.slice none 0 0, .int .i64 (chkO ts ws (al.map IntsA.l))]) ?_))))))
  exact fun w' hw => ⟨none, 0, 0, [], [], [], rfl, SlO.nil, GotE.nil, by rw [if_neg (by omega)]; rfl, (fun x h => by cases h), hw.below, hw.sub (List.nil_sublist _)⟩
 ·
  refine qa [(1, .no)] [1, 2, 3, 8] [(27, .bool false)] ([¬ (((chkO ts ws (al.map IntsA.l)) : Int) ≠ (0 : Int))]) (al1 q5) (ds_ (f_ (at_skip (ds_ (sq_ ?_)))))
  have hc3 := co_iff.1 (show chkO ts ws (al.map IntsA.l) = 0 from by omega)
  have hwl := wt_len hc3.2.1
  have hgm : (al.map IntsA.l).length = m := by rw [List.length_map]; omega
  have hzU := pairs_U (ws := ws) hU hWU
  have hzl : (pairsV ts ws).length = n := by rw [pairs_len hwl]; omega
  refine ma0 [] [1, 2, 3] (fun γ9 => [(9, .map (some (γ9 0)))]) (fun γ9 L => (γ9 0, .map #[] 0) :: L) (fun γ9 => ds_ (sq_ (sq_ (qa0 [] [1, 2, 3, 9] [(30, .slice q m capq), (31, .int .i64 (m : Nat)), (32, .int .i64 0)] (ds_ (at_block (at_loop (α := Nat × List (Int × Int) × Array MapEntry × Nat) [1, 2, 3, 9, 30, 31, 32] (fun ⟨j, Dg, eG, kG⟩ => [(1, .slice pw nw capw), (2, .slice q m capq), (3, .pointer (some ⟨γ1 0, 0, none⟩)), (9, .map (some (γ9 0))), (30, .slice q m capq), (31, .int .i64 (m : Nat)), (32, .int .i64 (j : Nat))]) (fun ⟨j, Dg, eG, kG⟩ => [(γ9 0, .map eG kG), bx (γ1 0) (#[.slice p n cap]) 26]) (fun ⟨j, Dg, eG, kG⟩ => j ≤ m ∧ (∀ k, (mget Dg k).getD 0 = ((gnV ((al.map IntsA.l).take j) k : Nat) : Int)) ∧ MapIs .i64 (Value.int .i64) eG Dg) (fun ⟨j, Dg, eG, kG⟩ => m - j) (0, [], #[], 0) (by kernel_rfl) rfl ⟨Nat.zero_le _, fun k => by rw [List.take_zero]; rfl, MapIs.nil⟩ ?_)))))))
  rintro ⟨j, Dg, eG, kG⟩
  rintro ⟨hj, hG, hmG⟩
  refine sq_ ?_
  by_cases q12 : ((j : Nat) : Int) < ((m : Nat) : Int)
  ·
   refine qa [(0, .yes)] [1, 2, 3, 9, 30, 31, 32] [(33, .bool true)] ([((j : Nat) : Int) < ((m : Nat) : Int)]) (al1 q12) (ds_ (sq_ (t_ (at_skip (ds_ (sq_ (at_block (sq_ ?_))))))))
   obtain ⟨b15, o15, rfl⟩ := hal.pos (i := j) (by omega)
   obtain ⟨x17, hx17⟩ := get_some (l := al) (m := j) (by omega)
   obtain ⟨hsx17, hnx17, hcx17, hbx17⟩ := hnm x17 (List.mem_of_getElem? hx17)
   refine qa [(1, .at b15 o15 j), (2, .go (outs b15 (o15 + j * 1) [.slice x17.p x17.n x17.cap]))] [1, 2, 3, 9, 30, 31, 32] [(10, .int .i64 (j : Nat)), (11, .slice x17.p x17.n x17.cap)] ([(some ⟨b15, o15, none⟩ : Option Addr) = some ⟨b15, o15, none⟩, (j : Nat) = ((j : Nat) : Int), j < m] ++ (cellsP w b15 (o15 + j * 1) [.slice x17.p x17.n x17.cap])) (alA (al2 rfl (al2 rfl (al1 (by omega)))) (rd_pre (hal.get hx17) _ rfl)) (ds_ (sq_ (qa0 [] [1, 2, 3, 9, 10, 30, 31, 32] [(37, .slice x17.p x17.n x17.cap), (38, .int .i64 (x17.n : Nat)), (39, .int .i64 0)] (ds_ (at_block ?_)))))
   have hm9x17 := hm9 x17 (List.mem_of_getElem? hx17)
   refine at_loop (α := Nat × List (Int × Int) × Array MapEntry × Nat) [1, 2, 3, 9, 10, 30, 31, 32, 37, 38, 39] (fun ⟨i, Di, eI, kI⟩ => [(1, .slice pw nw capw), (2, .slice (some ⟨b15, o15, none⟩) m capq), (3, .pointer (some ⟨γ1 0, 0, none⟩)), (9, .map (some (γ9 0))), (10, .int .i64 (j : Nat)), (30, .slice (some ⟨b15, o15, none⟩) m capq), (31, .int .i64 (m : Nat)), (32, .int .i64 (j : Nat)), (37, .slice x17.p x17.n x17.cap), (38, .int .i64 (x17.n : Nat)), (39, .int .i64 (i : Nat))]) (fun ⟨i, Di, eI, kI⟩ => [(γ9 0, .map eI kI), bx (γ1 0) (#[.slice p n cap]) 26]) (fun ⟨i, Di, eI, kI⟩ => i ≤ x17.n ∧ (∀ k, (mget Di k).getD 0 = if k ∈ x17.l.take i then ((j + 1 : Nat) : Int) else ((gnV ((al.map IntsA.l).take j) k : Nat) : Int)) ∧ MapIs .i64 (Value.int .i64) eI Di) (fun ⟨i, Di, eI, kI⟩ => x17.n - i) (0, Dg, eG, kG) (by kernel_rfl) rfl ⟨Nat.zero_le _, fun k => by rw [List.take_zero, if_neg (by simp)]; exact hG k, hmG⟩ ?_
   rintro ⟨i, Di, eI, kI⟩
   rintro ⟨hi, hGi, hmI⟩
   refine sq_ ?_
   by_cases q21 : ((i : Nat) : Int) < ((x17.n : Nat) : Int)
   ·
    refine qa [(0, .yes)] [1, 2, 3, 9, 10, 30, 31, 32, 37, 38, 39] [(40, .bool true)] ([((i : Nat) : Int) < ((x17.n : Nat) : Int)]) (al1 q21) (ds_ (sq_ (t_ (at_skip (ds_ (sq_ (at_block (sq_ ?_))))))))
    obtain ⟨b24, o24, hbo24⟩ := hsx17.pos (i := i) (by omega)
    have hsv24 := hsx17
    rw [hbo24] at hsv24
    obtain ⟨x26, hx26⟩ := get_some (l := x17.l) (m := i) (by omega)
    refine qa [(0, .at b24 o24 i), (1, .go (outs b24 (o24 + i * 1) [.int .i64 x26]))] [1, 2, 3, 9, 10, 30, 31, 32, 37, 38, 39] [(13, .int .i64 x26)] ([(x17.p : Option Addr) = some ⟨b24, o24, none⟩, (i : Nat) = ((i : Nat) : Int), i < x17.n] ++ (cellsP w b24 (o24 + i * 1) [.int .i64 x26])) (alA (al2 hbo24 (al2 rfl (al1 (by omega)))) (rd_pre (hsv24.get hx26) _ rfl)) (ds_ (ao_ (qo 4 [(3, .fit)] [1, 2, 3, 9, 10, 30, 31, 32, 37, 38, 39] [(43, .map (some (γ9 0))), (44, .int .i64 x26), (46, .int .i64 (j + 1 : Nat))] ([Fit .i64 ((j + 1 : Nat))]) (al1 (fit64 (by omega) (by omega))) (ops_update (ik := .i64) (enc := (Value.int .i64)) (kk := x26) 0 (j + 1 : Nat) ((Value.int .i64) 0) rfl (by kernel_rfl) (by kernel_rfl) (by kernel_rfl) (by kernel_rfl) (by kernel_rfl) (⟨3, 3, by kernel_rfl, by kernel_rfl, by kernel_rfl⟩ : mapB Try.prog 75 .i64 ((Value.int .i64) 0)) rfl hmI (fun es29 ck29 hM29 => on_ (done_block (ds_ (qa [(0, .fit)] [1, 2, 3, 9, 10, 30, 31, 32, 37, 38] [(39, .int .i64 (i + 1 : Nat))] ([Fit .i64 ((i + 1 : Nat))]) (al1 (fit64 (by omega) (by omega))) ?_))))))))
    exact dr [1, 2, 3, 9, 10, 30, 31, 32, 37, 38, 39] (i + 1, (mupd Di x26 (j + 1 : Nat)), es29, ck29) ⟨by omega, gi_on hGi hx26, hM29⟩
   ·
    refine qa [(0, .no)] [1, 2, 3, 9, 10, 30, 31, 32, 37, 38, 39] [(40, .bool false)] ([¬ (((i : Nat) : Int) < ((x17.n : Nat) : Int))]) (al1 q21) (ds_ (sq_ (f_ (at_leave _ rfl (done_block (ds_ (qa [(0, .fit)] [1, 2, 3, 9, 30, 31] [(32, .int .i64 (j + 1 : Nat))] ([Fit .i64 ((j + 1 : Nat))]) (al1 (fit64 (by omega) (by omega))) ?_)))))))
    exact dr [1, 2, 3, 9, 30, 31, 32] (j + 1, Di, eI, kI) ⟨by omega, gj_on (gs_at hx17) hGi (by omega), hmI⟩
  ·
   refine qa [(0, .no)] [1, 2, 3, 9, 30, 31, 32] [(33, .bool false)] ([¬ (((j : Nat) : Int) < ((m : Nat) : Int))]) (al1 q12) (ds_ (sq_ (f_ (at_leave _ rfl (ds_ (sq_ ?_))))))
   rw [List.take_of_length_le (by omega)] at hG
   clear hj
   refine ao_ (qo 3 [(2, .fit)] [1, 3, 9] [(51, .int .i64 (m + 1 : Nat))] ([Fit .i64 ((m + 1 : Nat))]) (al1 (fit64 (by omega) (by omega))) (ops_make0 (α := PsA) ⟨none, 0, 0, []⟩ 2 (zv := .slice none 0 0) (T := 79) (by_ := 24) (n := m + 1) rfl (by kernel_rfl) (by kernel_rfl) (by kernel_rfl) (by kernel_rfl) (by kernel_rfl) rfl (by kernel_rfl) rfl (by omega) (by have hmx : maxLen = 9223372036854775807 := rfl; omega) (fun Yr0 pr0 hOr0 => qo0 1 [] [1, 3, 9] [(14, .slice pr0 (m + 1) (m + 1))] (on_ (ds_ (sq_ (qa0 [] [1, 3, 9, 14] [(15, .slice none 0 0)] (ds_ (sq_ (sq_ (qa0 [(1, .go (owns 1 0 1))] [1, 9, 14, 15] [(54, .slice p n cap), (55, .int .i64 (n : Nat)), (56, .int .i64 0)] (ds_ (at_block (at_loop (α := Nat × List PsA × List Ob × Option Addr × List Ob × List EnA × List Ob × Option Addr × Nat × Nat × List Ob) [1, 9, 14, 15, 54, 55, 56] (fun ⟨j, rl, Yr, pr, Yq, el, Yo, po, nu, co, Yi⟩ => [(1, .slice pw nw capw), (9, .map (some (γ9 0))), (14, .slice pr (m + 1) (m + 1)), (15, .slice po nu co), (54, .slice p n cap), (55, .int .i64 (n : Nat)), (56, .int .i64 (j : Nat))]) (fun ⟨j, rl, Yr, pr, Yq, el, Yo, po, nu, co, Yi⟩ => (γ9 0, .map eG kG) :: bx (γ1 0) (#[.slice p n cap]) 26 :: (Yr ++ (Yq ++ (Yo ++ (Yi ++ []))))) (fun ⟨j, rl, Yr, pr, Yq, el, Yo, po, nu, co, Yi⟩ => j ≤ n ∧ nu ≤ j ∧ SlO 79 Yr pr (m + 1) (m + 1) rl ∧ GotP 78 Yq rl ∧ rl.map PsA.l = (List.range (m + 1)).map (rowP (al.map IntsA.l) ((pairsV ts ws).take j)) ∧ SlO 47 Yo po nu co el ∧ GotE 3 Yi el ∧ el.map EnA.val = singZ (al.map IntsA.l) ((pairsV ts ws).take j)) (fun ⟨j, rl, Yr, pr, Yq, el, Yo, po, nu, co, Yi⟩ => n - j) (0, List.replicate (m + 1) (⟨none, 0, 0, []⟩ : PsA), Yr0, pr0, [], [], [], none, 0, 0, []) (by kernel_rfl) rfl ⟨Nat.zero_le _, Nat.le_refl _, hOr0, GotP.rep _, rows_0, SlO.nil, GotE.nil, sing_0.symm⟩ ?_))))))))))))))
   rintro ⟨j, rl, Yr, pr, Yq, el, Yo, po, nu, co, Yi⟩
   rintro ⟨hj, hnu, hOr, hQ, hR, hO, hGe, hE⟩
   have hrl := hOr.len
   refine sq_ ?_
   by_cases q40 : ((j : Nat) : Int) < ((n : Nat) : Int)
   ·
    refine qa [(0, .yes)] [1, 9, 14, 15, 54, 55, 56] [(57, .bool true)] ([((j : Nat) : Int) < ((n : Nat) : Int)]) (al1 q40) (ds_ (sq_ (t_ (at_skip (ds_ (sq_ (at_block (sq_ ?_))))))))
    obtain ⟨b43, o43, rfl⟩ := hts.pos (i := j) (by omega)
    obtain ⟨x45, hx45⟩ := get_some (l := ts) (m := j) (by omega)
    have hUx45 := hU x45 (List.mem_of_getElem? hx45)
    refine ma [(1, .at b43 o43 j), (2, .go (outs b43 (o43 + j * 5) [.int .i64 x45.id, .int .i64 x45.each, .int .u64 x45.th, .int .u64 x45.tl, .int .u64 x45.tw])), (5, .go (owns 0 0 5))] [1, 9, 14, 15, 54, 55, 56] (fun γ46 => [(16, .int .i64 (j : Nat)), (17, .pointer (some ⟨γ46 0, 0, none⟩))]) (fun γ46 L => bx (γ46 0) (#[.int .i64 x45.id, .int .i64 x45.each, .int .u64 x45.th, .int .u64 x45.tl, .int .u64 x45.tw]) 67 :: L) (fun γ46 => [(some ⟨b43, o43, none⟩ : Option Addr) = some ⟨b43, o43, none⟩, (j : Nat) = ((j : Nat) : Int), j < n] ++ (cellsP w b43 (o43 + j * 5) [.int .i64 x45.id, .int .i64 x45.each, .int .u64 x45.th, .int .u64 x45.tl, .int .u64 x45.tw])) (fun γ46 => (alA (al2 rfl (al2 rfl (al1 (by omega)))) (rd_pre (hts.get hx45) _ rfl))) (fun γ46 => ds_ (sq_ ?_))
    obtain ⟨b47, o47, hbo47⟩ := hws.pos (i := j) (by omega)
    have hsv47 := hws
    rw [hbo47] at hsv47
    obtain ⟨x48, hx48⟩ := get_some (l := ws) (m := j) (by omega)
    have hWx48 := hWU x48 (List.mem_of_getElem? hx48)
    refine at_any (by kernel_rfl) ?_
    refine tk (m := 5) [1, 2, 3] [(3, .at b47 o47 j)] [1, 9, 14, 15, 17, 54, 55, 56] [(64, .pointer (some ⟨b47, o47 + j * 3, none⟩))] ([(pw : Option Addr) = some ⟨b47, o47, none⟩, (j : Nat) = ((j : Nat) : Int), j < nw]) #[false, true, true, true, false, false, false, false] (al2 hbo47 (al2 rfl (al1 (by omega)))) ?_
    refine any_cutG 1 #[true, true, true, true, true, true, true, false] (fun γ54 => [(1, .slice pw nw capw), (9, .map (some (γ9 0))), (14, .slice pr (m + 1) (m + 1)), (15, .slice po nu co), (17, .pointer (some ⟨γ46 0, 0, none⟩)), (18, .pointer (some ⟨γ54 0, 0, none⟩)), (54, .slice (some ⟨b43, o43, none⟩) n cap), (55, .int .i64 (n : Nat)), (56, .int .i64 (j : Nat)), (66, .agg #[.int .i64 x45.id, .int .i64 x45.each, .int .u64 x45.th, .int .u64 x45.tl, .int .u64 x45.tw, .int .i64 x48.id, .int .u64 x48.ord, .bool x48.fresh])]) (fun γ54 => bx (γ54 0) (#[.int .i64 0, .int .i64 0, .int .u64 0, .int .u64 0, .int .u64 0, .int .i64 0, .int .u64 0, .bool false]) 78 :: bx (γ46 0) (#[.int .i64 x45.id, .int .i64 x45.each, .int .u64 x45.th, .int .u64 x45.tl, .int .u64 x45.tw]) 67 :: (γ9 0, .map eG kG) :: bx (γ1 0) (#[.slice (some ⟨b43, o43, none⟩) n cap]) 26 :: (Yr ++ (Yq ++ (Yo ++ (Yi ++ []))))) (fun γ54 => ?_) (fun hm => ?_)
    rotate_left
    ·
     refine any_fork [0, 4, 6] (by kernel_rfl) (by simp) (each_cons _ rfl ?_ (each_cons _ rfl ?_ (each_cons _ rfl ?_ (each_nil))))
     ·
      refine qo0 1 [(0, .go (owns 0 0 5))] [1, 9, 14, 15, 17, 54, 55, 56, 64] [(61, .agg #[.int .i64 x45.id, .int .i64 x45.each, .int .u64 x45.th, .int .u64 x45.tl, .int .u64 x45.tw])] ?_
      refine od_ ?_
      refine any_fork [4, 6] (by kernel_rfl) (by simp) (each_cons _ rfl ?_ (each_cons _ rfl ?_ (each_nil)))
      ·
       refine qo 1 [(4, .go (outs b47 (o47 + j * 3) [.int .i64 x48.id, .int .u64 x48.ord, .bool x48.fresh]))] [1, 9, 14, 15, 17, 54, 55, 56, 61] [(65, .agg #[.int .i64 x48.id, .int .u64 x48.ord, .bool x48.fresh])] (cellsP w b47 (o47 + j * 3) [.int .i64 x48.id, .int .u64 x48.ord, .bool x48.fresh]) (rd_pre (hsv47.get hx48) _ rfl) ?_
       refine od_ ?_
       refine tk (m := 2) [5] [] [1, 9, 14, 15, 17, 54, 55, 56] [(66, .agg #[.int .i64 x45.id, .int .i64 x45.each, .int .u64 x45.th, .int .u64 x45.tl, .int .u64 x45.tw, .int .i64 x48.id, .int .u64 x48.ord, .bool x48.fresh])] ([]) #[true, true, true, true, true, true, false, false] al0 ?_
       refine a1 6 rfl ?_
       refine mo0 1 [] [1, 9, 14, 15, 17, 54, 55, 56, 66] (fun γ58 => [(18, .pointer (some ⟨γ58 0, 0, none⟩))]) (fun γ58 L => bx (γ58 0) (#[.int .i64 0, .int .i64 0, .int .u64 0, .int .u64 0, .int .u64 0, .int .i64 0, .int .u64 0, .bool false]) 78 :: L) (fun γ58 => ?_)
       refine od_ ?_
       exact any_weak (hm fun i => [γ58 0].getD i 0) [1, 9, 14, 15, 17, 18, 54, 55, 56, 66] (by kernel_rfl) rfl rfl rfl
      ·
       refine mo0 1 [] [1, 9, 14, 15, 17, 54, 55, 56, 61, 64] (fun γ59 => [(18, .pointer (some ⟨γ59 0, 0, none⟩))]) (fun γ59 L => bx (γ59 0) (#[.int .i64 0, .int .i64 0, .int .u64 0, .int .u64 0, .int .u64 0, .int .i64 0, .int .u64 0, .bool false]) 78 :: L) (fun γ59 => ?_)
       refine od_ ?_
       refine a1 4 rfl ?_
       refine qo 1 [(4, .go (outs b47 (o47 + j * 3) [.int .i64 x48.id, .int .u64 x48.ord, .bool x48.fresh]))] [1, 9, 14, 15, 17, 18, 54, 55, 56, 61] [(65, .agg #[.int .i64 x48.id, .int .u64 x48.ord, .bool x48.fresh])] (cellsP w b47 (o47 + j * 3) [.int .i64 x48.id, .int .u64 x48.ord, .bool x48.fresh]) (rd_pre (hsv47.get hx48) _ rfl) ?_
       refine od_ ?_
       refine tk (m := 1) [5] [] [1, 9, 14, 15, 17, 18, 54, 55, 56] [(66, .agg #[.int .i64 x45.id, .int .i64 x45.each, .int .u64 x45.th, .int .u64 x45.tl, .int .u64 x45.tw, .int .i64 x48.id, .int .u64 x48.ord, .bool x48.fresh])] ([]) #[true, true, true, true, true, true, true, false] al0 ?_
       exact any_weak (hm fun i => [γ59 0].getD i 0) [1, 9, 14, 15, 17, 18, 54, 55, 56, 66] (by kernel_rfl) rfl rfl rfl
     ·
      refine qo 1 [(4, .go (outs b47 (o47 + j * 3) [.int .i64 x48.id, .int .u64 x48.ord, .bool x48.fresh]))] [1, 9, 14, 15, 17, 54, 55, 56] [(65, .agg #[.int .i64 x48.id, .int .u64 x48.ord, .bool x48.fresh])] (cellsP w b47 (o47 + j * 3) [.int .i64 x48.id, .int .u64 x48.ord, .bool x48.fresh]) (rd_pre (hsv47.get hx48) _ rfl) ?_
      refine od_ ?_
      refine any_fork [0, 6] (by kernel_rfl) (by simp) (each_cons _ rfl ?_ (each_cons _ rfl ?_ (each_nil)))
      ·
       refine qo0 1 [(0, .go (owns 0 0 5))] [1, 9, 14, 15, 17, 54, 55, 56, 65] [(61, .agg #[.int .i64 x45.id, .int .i64 x45.each, .int .u64 x45.th, .int .u64 x45.tl, .int .u64 x45.tw])] ?_
       refine od_ ?_
       refine tk (m := 2) [5] [] [1, 9, 14, 15, 17, 54, 55, 56] [(66, .agg #[.int .i64 x45.id, .int .i64 x45.each, .int .u64 x45.th, .int .u64 x45.tl, .int .u64 x45.tw, .int .i64 x48.id, .int .u64 x48.ord, .bool x48.fresh])] ([]) #[true, true, true, true, true, true, false, false] al0 ?_
       refine a1 6 rfl ?_
       refine mo0 1 [] [1, 9, 14, 15, 17, 54, 55, 56, 66] (fun γ65 => [(18, .pointer (some ⟨γ65 0, 0, none⟩))]) (fun γ65 L => bx (γ65 0) (#[.int .i64 0, .int .i64 0, .int .u64 0, .int .u64 0, .int .u64 0, .int .i64 0, .int .u64 0, .bool false]) 78 :: L) (fun γ65 => ?_)
       refine od_ ?_
       exact any_weak (hm fun i => [γ65 0].getD i 0) [1, 9, 14, 15, 17, 18, 54, 55, 56, 66] (by kernel_rfl) rfl rfl rfl
      ·
       refine mo0 1 [] [1, 9, 14, 15, 17, 54, 55, 56, 65] (fun γ66 => [(18, .pointer (some ⟨γ66 0, 0, none⟩))]) (fun γ66 L => bx (γ66 0) (#[.int .i64 0, .int .i64 0, .int .u64 0, .int .u64 0, .int .u64 0, .int .i64 0, .int .u64 0, .bool false]) 78 :: L) (fun γ66 => ?_)
       refine od_ ?_
       refine a1 0 rfl ?_
       refine qo0 1 [(0, .go (owns 1 0 5))] [1, 9, 14, 15, 17, 18, 54, 55, 56, 65] [(61, .agg #[.int .i64 x45.id, .int .i64 x45.each, .int .u64 x45.th, .int .u64 x45.tl, .int .u64 x45.tw])] ?_
       refine od_ ?_
       refine tk (m := 1) [5] [] [1, 9, 14, 15, 17, 18, 54, 55, 56] [(66, .agg #[.int .i64 x45.id, .int .i64 x45.each, .int .u64 x45.th, .int .u64 x45.tl, .int .u64 x45.tw, .int .i64 x48.id, .int .u64 x48.ord, .bool x48.fresh])] ([]) #[true, true, true, true, true, true, true, false] al0 ?_
       exact any_weak (hm fun i => [γ66 0].getD i 0) [1, 9, 14, 15, 17, 18, 54, 55, 56, 66] (by kernel_rfl) rfl rfl rfl
     ·
      refine mo0 1 [] [1, 9, 14, 15, 17, 54, 55, 56, 64] (fun γ69 => [(18, .pointer (some ⟨γ69 0, 0, none⟩))]) (fun γ69 L => bx (γ69 0) (#[.int .i64 0, .int .i64 0, .int .u64 0, .int .u64 0, .int .u64 0, .int .i64 0, .int .u64 0, .bool false]) 78 :: L) (fun γ69 => ?_)
      refine od_ ?_
      refine any_fork [0, 4] (by kernel_rfl) (by simp) (each_cons _ rfl ?_ (each_cons _ rfl ?_ (each_nil)))
      ·
       refine qo0 1 [(0, .go (owns 1 0 5))] [1, 9, 14, 15, 17, 18, 54, 55, 56, 64] [(61, .agg #[.int .i64 x45.id, .int .i64 x45.each, .int .u64 x45.th, .int .u64 x45.tl, .int .u64 x45.tw])] ?_
       refine od_ ?_
       refine a1 4 rfl ?_
       refine qo 1 [(4, .go (outs b47 (o47 + j * 3) [.int .i64 x48.id, .int .u64 x48.ord, .bool x48.fresh]))] [1, 9, 14, 15, 17, 18, 54, 55, 56, 61] [(65, .agg #[.int .i64 x48.id, .int .u64 x48.ord, .bool x48.fresh])] (cellsP w b47 (o47 + j * 3) [.int .i64 x48.id, .int .u64 x48.ord, .bool x48.fresh]) (rd_pre (hsv47.get hx48) _ rfl) ?_
       refine od_ ?_
       refine tk (m := 1) [5] [] [1, 9, 14, 15, 17, 18, 54, 55, 56] [(66, .agg #[.int .i64 x45.id, .int .i64 x45.each, .int .u64 x45.th, .int .u64 x45.tl, .int .u64 x45.tw, .int .i64 x48.id, .int .u64 x48.ord, .bool x48.fresh])] ([]) #[true, true, true, true, true, true, true, false] al0 ?_
       exact any_weak (hm fun i => [γ69 0].getD i 0) [1, 9, 14, 15, 17, 18, 54, 55, 56, 66] (by kernel_rfl) rfl rfl rfl
      ·
       refine qo 1 [(4, .go (outs b47 (o47 + j * 3) [.int .i64 x48.id, .int .u64 x48.ord, .bool x48.fresh]))] [1, 9, 14, 15, 17, 18, 54, 55, 56] [(65, .agg #[.int .i64 x48.id, .int .u64 x48.ord, .bool x48.fresh])] (cellsP w b47 (o47 + j * 3) [.int .i64 x48.id, .int .u64 x48.ord, .bool x48.fresh]) (rd_pre (hsv47.get hx48) _ rfl) ?_
       refine od_ ?_
       refine a1 0 rfl ?_
       refine qo0 1 [(0, .go (owns 1 0 5))] [1, 9, 14, 15, 17, 18, 54, 55, 56, 65] [(61, .agg #[.int .i64 x45.id, .int .i64 x45.each, .int .u64 x45.th, .int .u64 x45.tl, .int .u64 x45.tw])] ?_
       refine od_ ?_
       refine tk (m := 1) [5] [] [1, 9, 14, 15, 17, 18, 54, 55, 56] [(66, .agg #[.int .i64 x45.id, .int .i64 x45.each, .int .u64 x45.th, .int .u64 x45.tl, .int .u64 x45.tw, .int .i64 x48.id, .int .u64 x48.ord, .bool x48.fresh])] ([]) #[true, true, true, true, true, true, true, false] al0 ?_
       exact any_weak (hm fun i => [γ69 0].getD i 0) [1, 9, 14, 15, 17, 18, 54, 55, 56, 66] (by kernel_rfl) rfl rfl rfl
    refine a1 7 rfl ?_
    refine mo0 1 [(7, .go (owns 0 0 8))] [1, 9, 14, 15, 17, 18, 54, 55, 56] (fun _ => []) (fun _ L => (L.set 0 (bx (γ54 0) (#[.int .i64 x45.id, .int .i64 x45.each, .int .u64 x45.th, .int .u64 x45.tl, .int .u64 x45.tw, .int .i64 x48.id, .int .u64 x48.ord, .bool x48.fresh]) 78))) (fun _ => ?_)
    refine od_ ?_
    refine any_nil (by kernel_rfl) ?_
    refine ds_ (sq_ (ao_ (qo0 3 [(2, .go (owns 1 0 1))] [1, 9, 14, 15, 18, 54, 55, 56] [(67, .map (some (γ9 0))), (69, .int .i64 x45.id)] (ops_lookup (ik := .i64) (enc := (Value.int .i64)) (kk := x45.id) 2 ((Value.int .i64) 0) (.int .i64 ((mget Dg x45.id).getD 0)) rfl (by kernel_rfl) (by kernel_rfl) (by kernel_rfl) (by kernel_rfl) (⟨3, 3, by kernel_rfl, by kernel_rfl, by kernel_rfl⟩ : mapB Try.prog 75 .i64 ((Value.int .i64) 0)) rfl hmG (map_getD _ _ _) (qo0 1 [] [1, 9, 14, 15, 18, 54, 55, 56] [(19, .int .i64 ((mget Dg x45.id).getD 0))] (on_ (ds_ (sq_ ?_))))))))
    have hgv := hG x45.id
    have hgl := gnV_le (gs := (al.map IntsA.l)) (k := x45.id)
    rw [hgv]
    by_cases q80 : ((gnV (al.map IntsA.l) x45.id : Nat) : Int) > (0 : Int)
    ·
     refine qa [(1, .yes)] [1, 9, 14, 15, 18, 19, 54, 55, 56] [(72, .bool true)] ([((gnV (al.map IntsA.l) x45.id : Nat) : Int) > (0 : Int)]) (al1 q80) (ds_ (t_ ?_))
     have hln82 := hOr.len
     obtain ⟨g82, cs82, rfl, rfl, hOw82⟩ := hOr.rowOf (i := gnV (al.map IntsA.l) x45.id) (by omega)
     obtain ⟨x83, hx83⟩ := get_some (l := rl) (m := gnV (al.map IntsA.l) x45.id) (by omega)
     have hri := row_in hR hx83
     have hrt : ((pairsV ts ws).take j).length ≤ n := by rw [List.length_take]; omega
     obtain ⟨Ya5, Yx5, Yb5, hYq, hOx5, hcut5⟩ := hQ.cut hx83
     have hx5 := hOx5.facts
     obtain ⟨p9, hp9⟩ : ∃ p, p = x83.p := ⟨_, rfl⟩
     rw [← hp9] at hOx5
     refine At.as (L' := bx (γ54 0) (#[.int .i64 x45.id, .int .i64 x45.each, .int .u64 x45.th, .int .u64 x45.tl, .int .u64 x45.tw, .int .i64 x48.id, .int .u64 x48.ord, .bool x48.fresh]) 78 :: bx (γ46 0) (#[.int .i64 x45.id, .int .i64 x45.each, .int .u64 x45.th, .int .u64 x45.tl, .int .u64 x45.tw]) 67 :: (γ9 0, .map eG kG) :: bx (γ1 0) (#[.slice (some ⟨b43, o43, none⟩) n cap]) 26 :: bx g82 cs82 79 :: (Ya5 ++ (Yx5 ++ (Yb5 ++ (Yo ++ (Yi ++ [])))))) (by rw [hYq]; simp only [List.append_assoc, List.cons_append, List.nil_append]; first | done | rfl) ?_
     refine at_any (by kernel_rfl) ?_
     refine tk (m := 6) [0, 1, 2, 3, 4] [(4, .at g82 0 (gnV (al.map IntsA.l) x45.id))] [1, 9, 14, 15, 18, 54, 55, 56] [(73, .slice (some ⟨g82, 0, none⟩) (m + 1) (m + 1)), (74, .int .i64 (gnV (al.map IntsA.l) x45.id : Nat)), (77, .pointer (some ⟨g82, 0 + (gnV (al.map IntsA.l) x45.id) * 1, none⟩))] ([(some ⟨g82, 0, none⟩ : Option Addr) = some ⟨g82, 0, none⟩, (gnV (al.map IntsA.l) x45.id : Nat) = ((gnV (al.map IntsA.l) x45.id : Nat) : Int), gnV (al.map IntsA.l) x45.id < m + 1]) #[true, true, true, true, true, false, false, false, false, false, false] (al2 rfl (al2 rfl (al1 (by omega)))) ?_
     refine any_cutG 3 #[true, true, true, true, true, true, true, true, false, false, false] (fun γ89 => [(1, .slice pw nw capw), (9, .map (some (γ9 0))), (14, .slice (some ⟨g82, 0, none⟩) (m + 1) (m + 1)), (15, .slice po nu co), (54, .slice (some ⟨b43, o43, none⟩) n cap), (55, .int .i64 (n : Nat)), (56, .int .i64 (j : Nat)), (73, .slice (some ⟨g82, 0, none⟩) (m + 1) (m + 1)), (74, .int .i64 (gnV (al.map IntsA.l) x45.id : Nat)), (78, .slice p9 x83.n x83.cap), (80, .slice (some ⟨γ89 0, 0, none⟩) 1 1)]) (fun γ89 => bx (γ89 0) (#[.int .i64 x45.id, .int .i64 x45.each, .int .u64 x45.th, .int .u64 x45.tl, .int .u64 x45.tw, .int .i64 x48.id, .int .u64 x48.ord, .bool x48.fresh]) 78 :: bx (γ54 0) (#[.int .i64 x45.id, .int .i64 x45.each, .int .u64 x45.th, .int .u64 x45.tl, .int .u64 x45.tw, .int .i64 x48.id, .int .u64 x48.ord, .bool x48.fresh]) 78 :: bx (γ46 0) (#[.int .i64 x45.id, .int .i64 x45.each, .int .u64 x45.th, .int .u64 x45.tl, .int .u64 x45.tw]) 67 :: (γ9 0, .map eG kG) :: bx (γ1 0) (#[.slice (some ⟨b43, o43, none⟩) n cap]) 26 :: bx g82 cs82 79 :: (Ya5 ++ (Yx5 ++ (Yb5 ++ (Yo ++ (Yi ++ [])))))) (fun γ89 => ?_) (fun hm => ?_)
     rotate_left
     ·
      refine any_fork [5, 6] (by kernel_rfl) (by simp) (each_cons _ rfl ?_ (each_cons _ rfl ?_ (each_nil)))
      ·
       refine qo 1 [(5, .is (ownps 4 (0 + (gnV (al.map IntsA.l) x45.id) * 1) [.slice x83.p x83.n x83.cap]) (.slice p9 x83.n x83.cap))] [1, 9, 14, 15, 18, 54, 55, 56, 73, 74] [(78, .slice p9 x83.n x83.cap)] ([Value.slice x83.p x83.n x83.cap = .slice p9 x83.n x83.cap] ++ (acellsP cs82 (0 + (gnV (al.map IntsA.l) x45.id) * 1) [.slice x83.p x83.n x83.cap])) (alA (al1 (by rw [hp9])) (rda_pre (hOw82.rdx hOr.len hx83) _ rfl)) ?_
       refine od_ ?_
       refine a1 6 rfl ?_
       refine qo0 1 [(6, .go (owns 0 0 8))] [1, 9, 14, 15, 54, 55, 56, 73, 74, 78] [(79, .agg #[.int .i64 x45.id, .int .i64 x45.each, .int .u64 x45.th, .int .u64 x45.tl, .int .u64 x45.tw, .int .i64 x48.id, .int .u64 x48.ord, .bool x48.fresh])] ?_
       refine od_ ?_
       refine a1 7 rfl ?_
       refine mo0 1 [] [1, 9, 14, 15, 54, 55, 56, 73, 74, 78] (fun γ92 => [(80, .slice (some ⟨γ92 0, 0, none⟩) 1 1)]) (fun γ92 L => bx (γ92 0) (#[.int .i64 x45.id, .int .i64 x45.each, .int .u64 x45.th, .int .u64 x45.tl, .int .u64 x45.tw, .int .i64 x48.id, .int .u64 x48.ord, .bool x48.fresh]) 78 :: L) (fun γ92 => ?_)
       refine od_ ?_
       exact any_weak (hm fun i => [γ92 0].getD i 0) [1, 9, 14, 15, 54, 55, 56, 73, 74, 78, 80] (by kernel_rfl) rfl rfl rfl
      ·
       refine qo0 1 [(6, .go (owns 0 0 8))] [1, 9, 14, 15, 54, 55, 56, 73, 74, 77] [(79, .agg #[.int .i64 x45.id, .int .i64 x45.each, .int .u64 x45.th, .int .u64 x45.tl, .int .u64 x45.tw, .int .i64 x48.id, .int .u64 x48.ord, .bool x48.fresh])] ?_
       refine od_ ?_
       refine any_fork [5, 7] (by kernel_rfl) (by simp) (each_cons _ rfl ?_ (each_cons _ rfl ?_ (each_nil)))
       ·
        refine qo 1 [(5, .is (ownps 4 (0 + (gnV (al.map IntsA.l) x45.id) * 1) [.slice x83.p x83.n x83.cap]) (.slice p9 x83.n x83.cap))] [1, 9, 14, 15, 54, 55, 56, 73, 74, 79] [(78, .slice p9 x83.n x83.cap)] ([Value.slice x83.p x83.n x83.cap = .slice p9 x83.n x83.cap] ++ (acellsP cs82 (0 + (gnV (al.map IntsA.l) x45.id) * 1) [.slice x83.p x83.n x83.cap])) (alA (al1 (by rw [hp9])) (rda_pre (hOw82.rdx hOr.len hx83) _ rfl)) ?_
        refine od_ ?_
        refine a1 7 rfl ?_
        refine mo0 1 [] [1, 9, 14, 15, 54, 55, 56, 73, 74, 78] (fun γ95 => [(80, .slice (some ⟨γ95 0, 0, none⟩) 1 1)]) (fun γ95 L => bx (γ95 0) (#[.int .i64 x45.id, .int .i64 x45.each, .int .u64 x45.th, .int .u64 x45.tl, .int .u64 x45.tw, .int .i64 x48.id, .int .u64 x48.ord, .bool x48.fresh]) 78 :: L) (fun γ95 => ?_)
        refine od_ ?_
        exact any_weak (hm fun i => [γ95 0].getD i 0) [1, 9, 14, 15, 54, 55, 56, 73, 74, 78, 80] (by kernel_rfl) rfl rfl rfl
       ·
        refine mo0 1 [] [1, 9, 14, 15, 54, 55, 56, 73, 74, 77] (fun γ96 => [(80, .slice (some ⟨γ96 0, 0, none⟩) 1 1)]) (fun γ96 L => bx (γ96 0) (#[.int .i64 x45.id, .int .i64 x45.each, .int .u64 x45.th, .int .u64 x45.tl, .int .u64 x45.tw, .int .i64 x48.id, .int .u64 x48.ord, .bool x48.fresh]) 78 :: L) (fun γ96 => ?_)
        refine od_ ?_
        refine a1 5 rfl ?_
        refine qo 1 [(5, .is (ownps 5 (0 + (gnV (al.map IntsA.l) x45.id) * 1) [.slice x83.p x83.n x83.cap]) (.slice p9 x83.n x83.cap))] [1, 9, 14, 15, 54, 55, 56, 73, 74, 80] [(78, .slice p9 x83.n x83.cap)] ([Value.slice x83.p x83.n x83.cap = .slice p9 x83.n x83.cap] ++ (acellsP cs82 (0 + (gnV (al.map IntsA.l) x45.id) * 1) [.slice x83.p x83.n x83.cap])) (alA (al1 (by rw [hp9])) (rda_pre (hOw82.rdx hOr.len hx83) _ rfl)) ?_
        refine od_ ?_
        exact any_weak (hm fun i => [γ96 0].getD i 0) [1, 9, 14, 15, 54, 55, 56, 73, 74, 78, 80] (by kernel_rfl) rfl rfl rfl
     refine a1 8 rfl ?_
     refine Ops.pick [[bx (γ89 0) (#[.int .i64 x45.id, .int .i64 x45.each, .int .u64 x45.th, .int .u64 x45.tl, .int .u64 x45.tw, .int .i64 x48.id, .int .u64 x48.ord, .bool x48.fresh]) 78], [bx (γ54 0) (#[.int .i64 x45.id, .int .i64 x45.each, .int .u64 x45.th, .int .u64 x45.tl, .int .u64 x45.tw, .int .i64 x48.id, .int .u64 x48.ord, .bool x48.fresh]) 78], [bx (γ46 0) (#[.int .i64 x45.id, .int .i64 x45.each, .int .u64 x45.th, .int .u64 x45.tl, .int .u64 x45.tw]) 67], [(γ9 0, .map eG kG)], [bx (γ1 0) (#[.slice (some ⟨b43, o43, none⟩) n cap]) 26], [bx g82 cs82 79], Ya5, Yx5, Yb5, Yo, Yi] [0, 1, 2, 3, 4, 5, 7, 6, 8, 9, 10] [] (bx (γ89 0) (#[.int .i64 x45.id, .int .i64 x45.each, .int .u64 x45.th, .int .u64 x45.tl, .int .u64 x45.tw, .int .i64 x48.id, .int .u64 x48.ord, .bool x48.fresh]) 78 :: bx (γ54 0) (#[.int .i64 x45.id, .int .i64 x45.each, .int .u64 x45.th, .int .u64 x45.tl, .int .u64 x45.tw, .int .i64 x48.id, .int .u64 x48.ord, .bool x48.fresh]) 78 :: bx (γ46 0) (#[.int .i64 x45.id, .int .i64 x45.each, .int .u64 x45.th, .int .u64 x45.tl, .int .u64 x45.tw]) 67 :: (γ9 0, .map eG kG) :: bx (γ1 0) (#[.slice (some ⟨b43, o43, none⟩) n cap]) 26 :: bx g82 cs82 79 :: (Yx5 ++ (Ya5 ++ (Yb5 ++ (Yo ++ (Yi ++ [])))))) (by kernel_rfl) rfl rfl (ops_append (α := Pr) [bx (γ89 0) (#[.int .i64 x45.id, .int .i64 x45.each, .int .u64 x45.th, .int .u64 x45.tl, .int .u64 x45.tw, .int .i64 x48.id, .int .u64 x48.ord, .bool x48.fresh]) 78, bx (γ54 0) (#[.int .i64 x45.id, .int .i64 x45.each, .int .u64 x45.th, .int .u64 x45.tl, .int .u64 x45.tw, .int .i64 x48.id, .int .u64 x48.ord, .bool x48.fresh]) 78, bx (γ46 0) (#[.int .i64 x45.id, .int .i64 x45.each, .int .u64 x45.th, .int .u64 x45.tl, .int .u64 x45.tw]) 67, (γ9 0, .map eG kG), bx (γ1 0) (#[.slice (some ⟨b43, o43, none⟩) n cap]) 26, bx g82 cs82 79] Yx5 (Ya5 ++ (Yb5 ++ (Yo ++ (Yi ++ [])))) (.refl _) rfl (by kernel_rfl) (by kernel_rfl) (p := p9) (n := x83.n) (cap := x83.cap) (m := 1) (yv := .slice (some ⟨γ89 0, 0, none⟩) 1 1) (by kernel_rfl) (by kernel_rfl) (T := 78) (by_ := 64) (by kernel_rfl) x83.l ([(⟨x45, x48⟩ : Pr)]) hOx5 (fun w hw => src_svn Try.underlying79 (sv_row (hw.row 0 rfl) (by rfl)) (by rfl)) (by rfl) (by have hmx : maxLen = 9223372036854775807 := rfl; omega) (by have hmx : maxLen = 9223372036854775807 := rfl; omega) (fun Y98 p98 cap98 hO98 => ?_))
     refine od_ ?_
     refine tk (m := 1) [9] [(9, .at g82 0 (gnV (al.map IntsA.l) x45.id))] [1, 9, 14, 15, 54, 55, 56, 81] [(82, .pointer (some ⟨g82, 0 + (gnV (al.map IntsA.l) x45.id) * 1, none⟩))] ([(some ⟨g82, 0, none⟩ : Option Addr) = some ⟨g82, 0, none⟩, (gnV (al.map IntsA.l) x45.id : Nat) = ((gnV (al.map IntsA.l) x45.id : Nat) : Int), gnV (al.map IntsA.l) x45.id < m + 1]) #[true, true, true, true, true, true, true, true, true, true, false] (al2 rfl (al2 rfl (al1 (by omega)))) ?_
     refine a1 10 rfl ?_
     refine mo 1 [(10, .go (ownps 5 (0 + (gnV (al.map IntsA.l) x45.id) * 1) [undef]))] [1, 9, 14, 15, 54, 55, 56] (fun _ => []) (fun _ L => (L.set 5 (bx g82 ((cs82).setIfInBounds (0 + (gnV (al.map IntsA.l) x45.id) * 1) (.slice p98 (x83.n + 1) cap98)) 79))) (fun _ => [0 + (gnV (al.map IntsA.l) x45.id) * 1 < (cs82).size]) (fun _ => (al1 (hOw82.room hOr.len hx83 (f := 0) (by decide)))) (fun _ => ?_)
     refine od_ ?_
     refine any_nil (by kernel_rfl) ?_
     refine done_block (ds_ (qa [(0, .fit)] [1, 9, 14, 15, 54, 55] [(56, .int .i64 (j + 1 : Nat))] ([Fit .i64 ((j + 1 : Nat))]) (al1 (fit64 (by omega) (by omega))) (Done.pick [[bx (γ89 0) (#[.int .i64 x45.id, .int .i64 x45.each, .int .u64 x45.th, .int .u64 x45.tl, .int .u64 x45.tw, .int .i64 x48.id, .int .u64 x48.ord, .bool x48.fresh]) 78], [bx (γ54 0) (#[.int .i64 x45.id, .int .i64 x45.each, .int .u64 x45.th, .int .u64 x45.tl, .int .u64 x45.tw, .int .i64 x48.id, .int .u64 x48.ord, .bool x48.fresh]) 78], [bx (γ46 0) (#[.int .i64 x45.id, .int .i64 x45.each, .int .u64 x45.th, .int .u64 x45.tl, .int .u64 x45.tw]) 67], [(γ9 0, .map eG kG)], [bx (γ1 0) (#[.slice (some ⟨b43, o43, none⟩) n cap]) 26], [bx g82 ((cs82).setIfInBounds (0 + (gnV (al.map IntsA.l) x45.id) * 1) (.slice p98 (x83.n + 1) cap98)) 79], Y98, Ya5, Yb5, Yo, Yi] [3, 4, 5, 7, 6, 8, 9, 10] [0, 1, 2] ((γ9 0, .map eG kG) :: bx (γ1 0) (#[.slice (some ⟨b43, o43, none⟩) n cap]) 26 :: ([bx g82 ((cs82).setIfInBounds (0 + (gnV (al.map IntsA.l) x45.id) * 1) (.slice p98 (x83.n + 1) cap98)) 79] ++ (Ya5 ++ (Y98 ++ (Yb5 ++ (Yo ++ (Yi ++ []))))))) (by kernel_rfl) rfl rfl (Done.as (L' := (γ9 0, .map eG kG) :: bx (γ1 0) (#[.slice (some ⟨b43, o43, none⟩) n cap]) 26 :: ([bx g82 ((cs82).setIfInBounds (0 + (gnV (al.map IntsA.l) x45.id) * 1) (.slice p98 (x83.n + 1) cap98)) 79] ++ ((Ya5 ++ (Y98 ++ Yb5)) ++ (Yo ++ (Yi ++ []))))) (by simp only [List.append_assoc]) ?_))))
     exact dr [1, 9, 14, 15, 54, 55, 56] (j + 1, (rl.set (gnV (al.map IntsA.l) x45.id) (⟨p98, (x83.n + 1), cap98, (x83.l ++ [(⟨x45, x48⟩ : Pr)])⟩ : PsA)), ([bx g82 ((cs82).setIfInBounds (0 + (gnV (al.map IntsA.l) x45.id) * 1) (.slice p98 (x83.n + 1) cap98)) 79]), (some ⟨g82, 0, none⟩), Ya5 ++ (Y98 ++ Yb5), el, Yo, po, nu, co, Yi) ⟨by omega, by omega, (SlO.ofOwn (hOw82.put (x' := (⟨p98, (x83.n + 1), cap98, (x83.l ++ [(⟨x45, x48⟩ : Pr)])⟩ : PsA)) hOr.len hx83 (f := 0) (by decide) rfl) (len_set hOr.len)), hcut5 _ (⟨p98, (x83.n + 1), cap98, (x83.l ++ [(⟨x45, x48⟩ : Pr)])⟩ : PsA) hO98, rowp_set hR hx83 (pairs_at hx45 hx48) rfl (by omega) rfl, hO, hGe, by rw [sing_no (pairs_at hx45 hx48) (show ¬ gnV (al.map IntsA.l) x45.id = 0 by omega)]; exact hE⟩
    ·
     refine qa [(1, .no)] [1, 9, 14, 15, 18, 19, 54, 55, 56] [(72, .bool false)] ([¬ (((gnV (al.map IntsA.l) x45.id : Nat) : Int) > (0 : Int))]) (al1 q80) (ds_ (f_ (ao_ (mo0 3 [(1, .go (owns 0 0 8))] [1, 9, 14, 54, 55, 56] (fun γ103 => [(83, .slice po nu co), (85, .slice (some ⟨γ103 0, 0, none⟩) 1 1)]) (fun γ103 L => bx (γ103 0) (#[.int .i64 x45.id, .int .i64 x45.each, .int .u64 x45.th, .int .u64 x45.tl, .int .u64 x45.tw, .int .i64 x48.id, .int .u64 x48.ord, .bool x48.fresh]) 78 :: L) (fun γ103 => cP (fun v L' => ∃ q_ n_ c_ Y_, v = .agg #[.slice q_ n_ c_, .int .u64 (entO [(⟨x45, x48⟩ : Pr)]).t.hi, .int .u64 (entO [(⟨x45, x48⟩ : Pr)]).t.lo, .int .u64 (entO [(⟨x45, x48⟩ : Pr)]).t.w, .int .u64 (entO [(⟨x45, x48⟩ : Pr)]).ord, .bool (entO [(⟨x45, x48⟩ : Pr)]).fresh] ∧ L' = List.take 5 (bx (γ103 0) (#[.int .i64 x45.id, .int .i64 x45.each, .int .u64 x45.th, .int .u64 x45.tl, .int .u64 x45.tw, .int .i64 x48.id, .int .u64 x48.ord, .bool x48.fresh]) 78 :: bx (γ54 0) (#[.int .i64 x45.id, .int .i64 x45.each, .int .u64 x45.th, .int .u64 x45.tl, .int .u64 x45.tw, .int .i64 x48.id, .int .u64 x48.ord, .bool x48.fresh]) 78 :: bx (γ46 0) (#[.int .i64 x45.id, .int .i64 x45.each, .int .u64 x45.th, .int .u64 x45.tl, .int .u64 x45.tw]) 67 :: (γ9 0, .map eG kG) :: bx (γ1 0) (#[.slice (some ⟨b43, o43, none⟩) n cap]) 26 :: (Yr ++ (Yq ++ (Yo ++ (Yi ++ []))))) ++ (Y_ ++ List.drop 5 (bx (γ103 0) (#[.int .i64 x45.id, .int .i64 x45.each, .int .u64 x45.th, .int .u64 x45.tl, .int .u64 x45.tw, .int .i64 x48.id, .int .u64 x48.ord, .bool x48.fresh]) 78 :: bx (γ54 0) (#[.int .i64 x45.id, .int .i64 x45.each, .int .u64 x45.th, .int .u64 x45.tl, .int .u64 x45.tw, .int .i64 x48.id, .int .u64 x48.ord, .bool x48.fresh]) 78 :: bx (γ46 0) (#[.int .i64 x45.id, .int .i64 x45.each, .int .u64 x45.th, .int .u64 x45.tl, .int .u64 x45.tw]) 67 :: (γ9 0, .map eG kG) :: bx (γ1 0) (#[.slice (some ⟨b43, o43, none⟩) n cap]) 26 :: (Yr ++ (Yq ++ (Yo ++ (Yi ++ [])))))) ∧ SlO 3 Y_ q_ n_ c_ (entO [(⟨x45, x48⟩ : Pr)]).mem) Try.call36 (fun w hw => (ent1_t (some ⟨γ103 0, 0, none⟩) 1 1 [(⟨x45, x48⟩ : Pr)] w (sv_row (hw.row 0 rfl) rfl) rfl (by decide) (by decide) (fun p hp => by rw [List.mem_singleton.1 hp]; exact hzU _ (List.mem_of_getElem? (pairs_at hx45 hx48)))).mono fun e w' ⟨q_, n_, c_, Y_, he, hO, hb, hY⟩ => ⟨_, _, he, ⟨q_, n_, c_, Y_, rfl, rfl, hO⟩, hw.join hb hY 5⟩) ?_)))))
     rintro v104 L104 ⟨q104, n104, c104, Y104, rfl, rfl, hO104⟩
     refine mo0 1 [] [1, 9, 14, 54, 55, 56, 83] (fun γ105 => [(87, .slice (some ⟨γ105 0, 0, none⟩) 1 1)]) (fun γ105 L => bx (γ105 0) (#[.slice q104 n104 c104, .int .u64 ((entO [(⟨x45, x48⟩ : Pr)]).t.hi), .int .u64 ((entO [(⟨x45, x48⟩ : Pr)]).t.lo), .int .u64 ((entO [(⟨x45, x48⟩ : Pr)]).t.w), .int .u64 ((entO [(⟨x45, x48⟩ : Pr)]).ord), .bool ((entO [(⟨x45, x48⟩ : Pr)]).fresh)]) 47 :: L) (fun γ105 => Ops.pick [[bx (γ105 0) (#[.slice q104 n104 c104, .int .u64 ((entO [(⟨x45, x48⟩ : Pr)]).t.hi), .int .u64 ((entO [(⟨x45, x48⟩ : Pr)]).t.lo), .int .u64 ((entO [(⟨x45, x48⟩ : Pr)]).t.w), .int .u64 ((entO [(⟨x45, x48⟩ : Pr)]).ord), .bool ((entO [(⟨x45, x48⟩ : Pr)]).fresh)]) 47], [bx (γ103 0) (#[.int .i64 x45.id, .int .i64 x45.each, .int .u64 x45.th, .int .u64 x45.tl, .int .u64 x45.tw, .int .i64 x48.id, .int .u64 x48.ord, .bool x48.fresh]) 78], [bx (γ54 0) (#[.int .i64 x45.id, .int .i64 x45.each, .int .u64 x45.th, .int .u64 x45.tl, .int .u64 x45.tw, .int .i64 x48.id, .int .u64 x48.ord, .bool x48.fresh]) 78], [bx (γ46 0) (#[.int .i64 x45.id, .int .i64 x45.each, .int .u64 x45.th, .int .u64 x45.tl, .int .u64 x45.tw]) 67], [(γ9 0, .map eG kG)], [bx (γ1 0) (#[.slice (some ⟨b43, o43, none⟩) n cap]) 26], Y104, Yr, Yq, Yo, Yi] [0, 1, 2, 3, 4, 5, 9, 6, 7, 8, 10] [] (bx (γ105 0) (#[.slice q104 n104 c104, .int .u64 ((entO [(⟨x45, x48⟩ : Pr)]).t.hi), .int .u64 ((entO [(⟨x45, x48⟩ : Pr)]).t.lo), .int .u64 ((entO [(⟨x45, x48⟩ : Pr)]).t.w), .int .u64 ((entO [(⟨x45, x48⟩ : Pr)]).ord), .bool ((entO [(⟨x45, x48⟩ : Pr)]).fresh)]) 47 :: bx (γ103 0) (#[.int .i64 x45.id, .int .i64 x45.each, .int .u64 x45.th, .int .u64 x45.tl, .int .u64 x45.tw, .int .i64 x48.id, .int .u64 x48.ord, .bool x48.fresh]) 78 :: bx (γ54 0) (#[.int .i64 x45.id, .int .i64 x45.each, .int .u64 x45.th, .int .u64 x45.tl, .int .u64 x45.tw, .int .i64 x48.id, .int .u64 x48.ord, .bool x48.fresh]) 78 :: bx (γ46 0) (#[.int .i64 x45.id, .int .i64 x45.each, .int .u64 x45.th, .int .u64 x45.tl, .int .u64 x45.tw]) 67 :: (γ9 0, .map eG kG) :: bx (γ1 0) (#[.slice (some ⟨b43, o43, none⟩) n cap]) 26 :: (Yo ++ (Y104 ++ (Yr ++ (Yq ++ (Yi ++ [])))))) (by kernel_rfl) rfl rfl (ops_append (α := EnA) [bx (γ105 0) (#[.slice q104 n104 c104, .int .u64 ((entO [(⟨x45, x48⟩ : Pr)]).t.hi), .int .u64 ((entO [(⟨x45, x48⟩ : Pr)]).t.lo), .int .u64 ((entO [(⟨x45, x48⟩ : Pr)]).t.w), .int .u64 ((entO [(⟨x45, x48⟩ : Pr)]).ord), .bool ((entO [(⟨x45, x48⟩ : Pr)]).fresh)]) 47, bx (γ103 0) (#[.int .i64 x45.id, .int .i64 x45.each, .int .u64 x45.th, .int .u64 x45.tl, .int .u64 x45.tw, .int .i64 x48.id, .int .u64 x48.ord, .bool x48.fresh]) 78, bx (γ54 0) (#[.int .i64 x45.id, .int .i64 x45.each, .int .u64 x45.th, .int .u64 x45.tl, .int .u64 x45.tw, .int .i64 x48.id, .int .u64 x48.ord, .bool x48.fresh]) 78, bx (γ46 0) (#[.int .i64 x45.id, .int .i64 x45.each, .int .u64 x45.th, .int .u64 x45.tl, .int .u64 x45.tw]) 67, (γ9 0, .map eG kG), bx (γ1 0) (#[.slice (some ⟨b43, o43, none⟩) n cap]) 26] Yo (Y104 ++ (Yr ++ (Yq ++ (Yi ++ [])))) (.refl _) rfl (by kernel_rfl) (by kernel_rfl) (p := po) (n := nu) (cap := co) (m := 1) (yv := .slice (some ⟨γ105 0, 0, none⟩) 1 1) (by kernel_rfl) (by kernel_rfl) (T := 47) (by_ := 64) (by kernel_rfl) el ([(⟨q104, n104, c104, (entO [(⟨x45, x48⟩ : Pr)]).mem, (entO [(⟨x45, x48⟩ : Pr)]).t.hi, (entO [(⟨x45, x48⟩ : Pr)]).t.lo, (entO [(⟨x45, x48⟩ : Pr)]).t.w, (entO [(⟨x45, x48⟩ : Pr)]).ord, (entO [(⟨x45, x48⟩ : Pr)]).fresh⟩ : EnA)]) hO (fun w hw => src_svn Try.underlying34 (sv_row (hw.row 0 rfl) (by rfl)) (by rfl)) (by rfl) (by have hmx : maxLen = 9223372036854775807 := rfl; omega) (by have hmx : maxLen = 9223372036854775807 := rfl; omega) (fun Y106 p106 cap106 hO106 => ?_)))
     refine qo0 1 [] [1, 9, 14, 54, 55, 56] [(15, .slice p106 (nu + 1) cap106)] (on_ (done_block (ds_ (qa [(0, .fit)] [1, 9, 14, 15, 54, 55] [(56, .int .i64 (j + 1 : Nat))] ([Fit .i64 ((j + 1 : Nat))]) (al1 (fit64 (by omega) (by omega))) (Done.pick [[bx (γ105 0) (#[.slice q104 n104 c104, .int .u64 ((entO [(⟨x45, x48⟩ : Pr)]).t.hi), .int .u64 ((entO [(⟨x45, x48⟩ : Pr)]).t.lo), .int .u64 ((entO [(⟨x45, x48⟩ : Pr)]).t.w), .int .u64 ((entO [(⟨x45, x48⟩ : Pr)]).ord), .bool ((entO [(⟨x45, x48⟩ : Pr)]).fresh)]) 47], [bx (γ103 0) (#[.int .i64 x45.id, .int .i64 x45.each, .int .u64 x45.th, .int .u64 x45.tl, .int .u64 x45.tw, .int .i64 x48.id, .int .u64 x48.ord, .bool x48.fresh]) 78], [bx (γ54 0) (#[.int .i64 x45.id, .int .i64 x45.each, .int .u64 x45.th, .int .u64 x45.tl, .int .u64 x45.tw, .int .i64 x48.id, .int .u64 x48.ord, .bool x48.fresh]) 78], [bx (γ46 0) (#[.int .i64 x45.id, .int .i64 x45.each, .int .u64 x45.th, .int .u64 x45.tl, .int .u64 x45.tw]) 67], [(γ9 0, .map eG kG)], [bx (γ1 0) (#[.slice (some ⟨b43, o43, none⟩) n cap]) 26], Y106, Y104, Yr, Yq, Yi] [4, 5, 8, 9, 6, 10, 7] [0, 1, 2, 3] ((γ9 0, .map eG kG) :: bx (γ1 0) (#[.slice (some ⟨b43, o43, none⟩) n cap]) 26 :: (Yr ++ (Yq ++ (Y106 ++ (Yi ++ (Y104 ++ [])))))) (by kernel_rfl) rfl rfl (Done.as (L' := (γ9 0, .map eG kG) :: bx (γ1 0) (#[.slice (some ⟨b43, o43, none⟩) n cap]) 26 :: (Yr ++ (Yq ++ (Y106 ++ ((Yi ++ Y104) ++ []))))) (by simp only [List.append_assoc]) ?_))))))
     exact dr [1, 9, 14, 15, 54, 55, 56] (j + 1, rl, Yr, pr, Yq, (el ++ [(⟨q104, n104, c104, (entO [(⟨x45, x48⟩ : Pr)]).mem, (entO [(⟨x45, x48⟩ : Pr)]).t.hi, (entO [(⟨x45, x48⟩ : Pr)]).t.lo, (entO [(⟨x45, x48⟩ : Pr)]).t.w, (entO [(⟨x45, x48⟩ : Pr)]).ord, (entO [(⟨x45, x48⟩ : Pr)]).fresh⟩ : EnA)]), Y106, p106, (nu + 1), cap106, Yi ++ Y104) ⟨by omega, by omega, hOr, hQ, by rw [rowp_no (pairs_at hx45 hx48) (show gnV (al.map IntsA.l) x45.id = 0 by omega)]; exact hR, hO106, GotE.snoc (y := (⟨q104, n104, c104, (entO [(⟨x45, x48⟩ : Pr)]).mem, (entO [(⟨x45, x48⟩ : Pr)]).t.hi, (entO [(⟨x45, x48⟩ : Pr)]).t.lo, (entO [(⟨x45, x48⟩ : Pr)]).t.w, (entO [(⟨x45, x48⟩ : Pr)]).ord, (entO [(⟨x45, x48⟩ : Pr)]).fresh⟩ : EnA)) hGe hO104, by rw [sing_yes (pairs_at hx45 hx48) (show gnV (al.map IntsA.l) x45.id = 0 by omega), List.map_append, hE]; rfl⟩
   ·
    refine qa [(0, .no)] [1, 9, 14, 15, 54, 55, 56] [(57, .bool false)] ([¬ (((j : Nat) : Int) < ((n : Nat) : Int))]) (al1 q40) (ds_ (sq_ (f_ (at_leave _ rfl (ds_ (sq_ (sq_ ?_)))))))
    rw [List.take_of_length_le (by omega)] at hR hE
    refine qa0 [] [15] [(90, .slice pr (m + 1) (m + 1)), (91, .int .i64 (m + 1 : Nat)), (92, .int .i64 0)] (ds_ (at_block (at_loop (α := Nat × List EnA × List Ob × Option Addr × Nat × Nat × List Ob) [15, 90, 91, 92] (fun ⟨i, el, Yo, po, nu, co, Yi⟩ => [(15, .slice po nu co), (90, .slice pr (m + 1) (m + 1)), (91, .int .i64 (m + 1 : Nat)), (92, .int .i64 (i : Nat))]) (fun ⟨i, el, Yo, po, nu, co, Yi⟩ => (γ9 0, .map eG kG) :: bx (γ1 0) (#[.slice p n cap]) 26 :: (Yr ++ (Yq ++ (Yo ++ (Yi ++ []))))) (fun ⟨i, el, Yo, po, nu, co, Yi⟩ => i ≤ m + 1 ∧ nu ≤ n + i ∧ SlO 47 Yo po nu co el ∧ GotE 3 Yi el ∧ el.map EnA.val = singZ (al.map IntsA.l) (pairsV ts ws) ++ ((rl.map PsA.l).take i).filterMap neO) (fun ⟨i, el, Yo, po, nu, co, Yi⟩ => m + 1 - i) (0, el, Yo, po, nu, co, Yi) (by kernel_rfl) rfl ⟨Nat.zero_le _, by omega, hO, hGe, by rw [hE, List.take_zero]; simp⟩ ?_)))
    rintro ⟨i, el, Yo, po, nu, co, Yi⟩
    rintro ⟨hi, hnu3, hO, hGe, hE3⟩
    refine sq_ ?_
    by_cases q112 : ((i : Nat) : Int) < ((m + 1 : Nat) : Int)
    ·
     refine qa [(0, .yes)] [15, 90, 91, 92] [(93, .bool true)] ([((i : Nat) : Int) < ((m + 1 : Nat) : Int)]) (al1 q112) (ds_ (sq_ (t_ (at_skip (ds_ (sq_ (at_block (sq_ ?_))))))))
     have hln115 := hOr.len
     obtain ⟨g115, cs115, rfl, rfl, hOw115⟩ := hOr.rowOf (i := i) (by omega)
     obtain ⟨x117, hx117⟩ := get_some (l := rl) (m := i) (by omega)
     refine qa [(0, .at g115 0 i), (1, .go (ownps 2 (0 + i * 1) [.slice x117.p x117.n x117.cap]))] [15, 90, 91, 92] [(21, .slice x117.p x117.n x117.cap)] ([(some ⟨g115, 0, none⟩ : Option Addr) = some ⟨g115, 0, none⟩, (i : Nat) = ((i : Nat) : Int), i < m + 1] ++ (acellsP cs115 (0 + i * 1) [.slice x117.p x117.n x117.cap])) (alA (al2 rfl (al2 rfl (al1 (by omega)))) (rda_pre (hOw115.rdx hOr.len hx117) _ rfl)) (ds_ (sq_ ?_))
     have hri := row_in hR hx117
     obtain ⟨Zx5, -, hOx5⟩ := hQ.own (List.mem_of_getElem? hx117)
     have hx5 := hOx5.facts
     by_cases q120 : ((x117.n : Nat) : Int) > (0 : Int)
     ·
      refine qa [(2, .yes)] [15, 21, 90, 91, 92] [(98, .bool true)] ([((x117.n : Nat) : Int) > (0 : Int)]) (al1 q120) (ds_ (t_ (ao_ (qo0 2 [] [90, 91, 92] [(99, .slice po nu co), (100, .slice x117.p x117.n x117.cap)] (cP (fun v L' => ∃ q_ n_ c_ Y_, v = .agg #[.slice q_ n_ c_, .int .u64 (entO x117.l).t.hi, .int .u64 (entO x117.l).t.lo, .int .u64 (entO x117.l).t.w, .int .u64 (entO x117.l).ord, .bool (entO x117.l).fresh] ∧ L' = List.take 3 ((γ9 0, .map eG kG) :: bx (γ1 0) (#[.slice p n cap]) 26 :: bx g115 cs115 79 :: (Yq ++ (Yo ++ (Yi ++ [])))) ++ (Y_ ++ List.drop 3 ((γ9 0, .map eG kG) :: bx (γ1 0) (#[.slice p n cap]) 26 :: bx g115 cs115 79 :: (Yq ++ (Yo ++ (Yi ++ []))))) ∧ SlO 3 Y_ q_ n_ c_ (entO x117.l).mem) Try.call36 (fun w hw => (ent1_t x117.p x117.n x117.cap x117.l w (GotP.reads hQ hw (List.Sublist.cons _ (List.Sublist.cons _ (List.Sublist.cons _ (List.sublist_append_left Yq _)))) x117 (List.mem_of_getElem? hx117)).sv (GotP.reads hQ hw (List.Sublist.cons _ (List.Sublist.cons _ (List.Sublist.cons _ (List.sublist_append_left Yq _)))) x117 (List.mem_of_getElem? hx117)).hn (by omega) (by omega) (fun p hp => hzU p ((row_in hR hx117).2 p hp))).mono fun e w' ⟨q_, n_, c_, Y_, he, hO, hb, hY⟩ => ⟨_, _, he, ⟨q_, n_, c_, Y_, rfl, rfl, hO⟩, hw.join hb hY 3⟩) ?_)))))
      rintro v123 L123 ⟨q123, n123, c123, Y123, rfl, rfl, hO123⟩
      refine mo0 1 [] [90, 91, 92, 99] (fun γ124 => [(102, .slice (some ⟨γ124 0, 0, none⟩) 1 1)]) (fun γ124 L => bx (γ124 0) (#[.slice q123 n123 c123, .int .u64 ((entO x117.l).t.hi), .int .u64 ((entO x117.l).t.lo), .int .u64 ((entO x117.l).t.w), .int .u64 ((entO x117.l).ord), .bool ((entO x117.l).fresh)]) 47 :: L) (fun γ124 => Ops.pick [[bx (γ124 0) (#[.slice q123 n123 c123, .int .u64 ((entO x117.l).t.hi), .int .u64 ((entO x117.l).t.lo), .int .u64 ((entO x117.l).t.w), .int .u64 ((entO x117.l).ord), .bool ((entO x117.l).fresh)]) 47], [(γ9 0, .map eG kG)], [bx (γ1 0) (#[.slice p n cap]) 26], [bx g115 cs115 79], Y123, Yq, Yo, Yi] [0, 1, 2, 3, 6, 4, 5, 7] [] (bx (γ124 0) (#[.slice q123 n123 c123, .int .u64 ((entO x117.l).t.hi), .int .u64 ((entO x117.l).t.lo), .int .u64 ((entO x117.l).t.w), .int .u64 ((entO x117.l).ord), .bool ((entO x117.l).fresh)]) 47 :: (γ9 0, .map eG kG) :: bx (γ1 0) (#[.slice p n cap]) 26 :: bx g115 cs115 79 :: (Yo ++ (Y123 ++ (Yq ++ (Yi ++ []))))) (by kernel_rfl) rfl rfl (ops_append (α := EnA) [bx (γ124 0) (#[.slice q123 n123 c123, .int .u64 ((entO x117.l).t.hi), .int .u64 ((entO x117.l).t.lo), .int .u64 ((entO x117.l).t.w), .int .u64 ((entO x117.l).ord), .bool ((entO x117.l).fresh)]) 47, (γ9 0, .map eG kG), bx (γ1 0) (#[.slice p n cap]) 26, bx g115 cs115 79] Yo (Y123 ++ (Yq ++ (Yi ++ []))) (.refl _) rfl (by kernel_rfl) (by kernel_rfl) (p := po) (n := nu) (cap := co) (m := 1) (yv := .slice (some ⟨γ124 0, 0, none⟩) 1 1) (by kernel_rfl) (by kernel_rfl) (T := 47) (by_ := 64) (by kernel_rfl) el ([(⟨q123, n123, c123, (entO x117.l).mem, (entO x117.l).t.hi, (entO x117.l).t.lo, (entO x117.l).t.w, (entO x117.l).ord, (entO x117.l).fresh⟩ : EnA)]) hO (fun w hw => src_svn Try.underlying34 (sv_row (hw.row 0 rfl) (by rfl)) (by rfl)) (by rfl) (by have hmx : maxLen = 9223372036854775807 := rfl; omega) (by have hmx : maxLen = 9223372036854775807 := rfl; omega) (fun Y125 p125 cap125 hO125 => qo0 1 [] [90, 91, 92] [(15, .slice p125 (nu + 1) cap125)] (on_ (done_block (ds_ (qa [(0, .fit)] [15, 90, 91] [(92, .int .i64 (i + 1 : Nat))] ([Fit .i64 ((i + 1 : Nat))]) (al1 (fit64 (by omega) (by omega))) (Done.pick [[bx (γ124 0) (#[.slice q123 n123 c123, .int .u64 ((entO x117.l).t.hi), .int .u64 ((entO x117.l).t.lo), .int .u64 ((entO x117.l).t.w), .int .u64 ((entO x117.l).ord), .bool ((entO x117.l).fresh)]) 47], [(γ9 0, .map eG kG)], [bx (γ1 0) (#[.slice p n cap]) 26], [bx g115 cs115 79], Y125, Y123, Yq, Yi] [1, 2, 3, 6, 4, 7, 5] [0] ((γ9 0, .map eG kG) :: bx (γ1 0) (#[.slice p n cap]) 26 :: ([bx g115 cs115 79] ++ (Yq ++ (Y125 ++ (Yi ++ (Y123 ++ [])))))) (by kernel_rfl) rfl rfl ?_))))))))
      refine Done.as (L' := (γ9 0, .map eG kG) :: bx (γ1 0) (#[.slice p n cap]) 26 :: ([bx g115 cs115 79] ++ (Yq ++ (Y125 ++ ((Yi ++ Y123) ++ []))))) (by simp only [List.append_assoc, List.cons_append, List.nil_append]) ?_
      exact dr [15, 90, 91, 92] (i + 1, (el ++ [(⟨q123, n123, c123, (entO x117.l).mem, (entO x117.l).t.hi, (entO x117.l).t.lo, (entO x117.l).t.w, (entO x117.l).ord, (entO x117.l).fresh⟩ : EnA)]), Y125, p125, (nu + 1), cap125, Yi ++ Y123) ⟨by omega, by omega, hO125, GotE.snoc (y := (⟨q123, n123, c123, (entO x117.l).mem, (entO x117.l).t.hi, (entO x117.l).t.lo, (entO x117.l).t.w, (entO x117.l).ord, (entO x117.l).fresh⟩ : EnA)) hGe hO123, by rw [fm_yes hx117 (fun e => by rw [e] at hx5; simp at hx5; omega), ← List.append_assoc, List.map_append, hE3]; rfl⟩
     ·
      refine qa [(2, .no)] [15, 21, 90, 91, 92] [(98, .bool false)] ([¬ (((x117.n : Nat) : Int) > (0 : Int))]) (al1 q120) (ds_ (f_ (at_skip (done_block (ds_ (qa [(0, .fit)] [15, 90, 91] [(92, .int .i64 (i + 1 : Nat))] ([Fit .i64 ((i + 1 : Nat))]) (al1 (fit64 (by omega) (by omega))) ?_))))))
      exact dr [15, 90, 91, 92] (i + 1, el, Yo, po, nu, co, Yi) ⟨by omega, by omega, hO, hGe, by rw [fm_no hx117 (List.length_eq_zero_iff.1 (by omega))]; exact hE3⟩
    ·
     refine qa [(0, .no)] [15, 90, 91, 92] [(93, .bool false)] ([¬ (((i : Nat) : Int) < ((m + 1 : Nat) : Int))]) (al1 q112) (ds_ (sq_ (f_ (at_leave _ rfl (ds_ (sq_ ?_))))))
     have hE4 : el.map EnA.val = rawV (al.map IntsA.l) (pairsV ts ws) := by rw [hE3]; exact raw_end (by rw [hgm]; exact hR) (by omega)
     have hnd : (el.map fun x => firstM x.val).Nodup := by have h9 := raw_nodup (gs := (al.map IntsA.l)) (ids_nodup (ws := ws) hc3.1 hwl); rw [← hE4, List.map_map] at h9; exact h9
     have hrt : ∀ x ∈ el, rightE x.val = true := fun x hx => raw_right (gs := (al.map IntsA.l)) (ws := ws) hc3.1 (by rw [← hE4]; exact List.mem_map_of_mem hx)
     have hUe : ∀ x ∈ el, x.U := raw_Us (.refl _) hE4 hzU
     refine ao_ (qo0 1 [] [15] [(105, .slice po nu co)] (Ops.pick [[(γ9 0, .map eG kG)], [bx (γ1 0) (#[.slice p n cap]) 26], Yr, Yq, Yo, Yi] [0, 1, 4, 2, 3, 5] [] ((γ9 0, .map eG kG) :: bx (γ1 0) (#[.slice p n cap]) 26 :: (Yo ++ (Yr ++ (Yq ++ (Yi ++ []))))) (by kernel_rfl) rfl rfl (cP (fun v L' => ∃ Y_ el_, v = .tuple #[] ∧ L' = [(γ9 0, .map eG kG), bx (γ1 0) (#[.slice p n cap]) 26] ++ (Y_ ++ (Yr ++ (Yq ++ (Yi ++ [])))) ∧ el_.Perm el ∧ SortP (el_.map EnA.val) ∧ SlO 47 Y_ po nu co el_) Try.call37 (fun w hw => (sortE_own (X := [(γ9 0, .map eG kG), bx (γ1 0) (#[.slice p n cap]) 26] ++ (Yr ++ (Yq ++ (Yi ++ [])))) (Hs.front (A := [(γ9 0, .map eG kG), bx (γ1 0) (#[.slice p n cap]) 26]) (Y := Yo) (R := (Yr ++ (Yq ++ (Yi ++ [])))) hw) hO (by omega) hrt hnd (fun b W hW => GotE.reads hGe hUe hW (List.Sublist.cons _ (List.Sublist.trans (List.Sublist.trans (List.Sublist.trans (List.sublist_append_left Yi _) (List.sublist_append_right Yq _)) (List.sublist_append_right Yr _)) (List.sublist_append_right _ _))))).mono fun e w' ⟨he, Y_, el_, hp_, hs_, hO_, hY_⟩ => ⟨_, _, he, ⟨Y_, el_, rfl, rfl, hp_, hs_, hO_⟩, hY_.push⟩) ?_)))
     rintro v132 L132 ⟨Y132, el132, rfl, rfl, hp132, hs132, hO132⟩
     refine on_ (ds_ (sq_ (qa0 [] [] [(6, .slice po nu co), (7, .int .i64 0)] (ds_ (rt ([]) (.tuple #[.slice po nu co, .int .i64 0]) ?_)))))
     obtain ⟨Yj, hYj, hGj⟩ := hGe.perm hp132.symm
     exact fun w' hw => ⟨_, _, _, Y132, Yj, el132, by rw [show chkO ts ws (al.map IntsA.l) = 0 from by omega], hO132, hGj, by rw [if_pos (by omega)]; exact doc_of hc3.1 hc3.2.1 hc3.2.2 (by rw [← hE4]; exact hp132.map _) hs132, raw_Us hp132 hE4 hzU, hw.below, (two_tails14 (Hs.pick [[(γ9 0, .map eG kG)], [bx (γ1 0) (#[.slice p n cap]) 26], Y132, Yr, Yq, Yi] [2, 5] [0, 1, 3, 4] (by kernel_rfl) hw)).perm (hYj.symm.append_left _)⟩
end Go.Proofs.Ytoljahfofkmdaaa

/-! Order: the layer does something. -/
namespace Go.Proofs.Ytoljahfofkmdaaa
open Go Go.RowKit

set_option maxRecDepth 100000 in
theorem over_t (a b : Int) (w : World)
 : Calls Try.prog 54 #[.int .u64 a, .int .u64 b] w fun e w' => e = .returned (.agg #[.int .u64 0, .int .u64 a, .int .u64 b]) ∧ Below w.heap.size w w' := by
 refine enter (Hs.start w) Try.func54 rfl Try.ntmps54 rfl (sq_ (ma0 [] [0, 1] (fun γ1 => [(4, .pointer (some ⟨γ1 0, 0, none⟩))]) (fun γ1 L => bx (γ1 0) (#[.int .u64 0, .int .u64 0, .int .u64 0]) 45 :: L) (fun γ1 => ds_ (sq_ (ma0 [(4, .go (owns 0 0 3))] [4] (fun _ => []) (fun _ L => (L.set 0 (bx (γ1 0) (#[.int .u64 0, .int .u64 a, .int .u64 b]) 45))) (fun _ => ds_ (rt (owns 0 0 3) (.agg #[.int .u64 0, .int .u64 a, .int .u64 b]) ?_)))))))
 exact fun w' hw => ⟨rfl, hw.below⟩
theorem lit_U12 : ∀ r ∈ [(⟨1, 1, 0, 10, 1⟩ : Rn), (⟨2, 1, 0, 20, 2⟩ : Rn), (⟨3, 1, 0, 5, 1⟩ : Rn)], r.U := by
 intro r hr
 simp only [List.mem_cons, List.not_mem_nil, or_false] at hr
 rcases hr with rfl | rfl | rfl <;> exact ⟨by decide, by decide, by decide, by decide, by constructor <;> decide⟩
theorem lit_W12 : ∀ r ∈ [(⟨1, 3, false⟩ : Wt), (⟨2, 1, false⟩ : Wt), (⟨3, 2, false⟩ : Wt)], r.U := by
 intro r hr
 simp only [List.mem_cons, List.not_mem_nil, or_false] at hr
 rcases hr with rfl | rfl | rfl <;> exact ⟨by decide, by decide, by decide, by decide⟩

set_option maxRecDepth 100000 in
theorem wakes_t  (w : World)
 : Calls Try.prog 9 #[] w fun e w' => e = .returned (.bool true) ∧ Below w.heap.size w w' := by
 refine enter (Hs.start w) Try.func9 rfl Try.ntmps9 rfl (sq_ (qa0 [] [] [] (ds_ (sq_ (ao_ (ops_inline (g := 30) (args := #[]) (by kernel_rfl) (by kernel_rfl) (by kernel_rfl) (fun args w => Try.call30 args w) Try.func30 rfl Try.ntmps30 rfl (sq_ (ma0 [] [] (fun γ3 => [(0, .pointer (some ⟨γ3 0, 0, none⟩))]) (fun γ3 L => bx (γ3 0) (#[.slice none 0 0]) 26 :: L) (fun γ3 => ds_ (sq_ (ao_ (cD (.agg #[.int .u64 0, .int .u64 10, .int .u64 1]) Try.call54 (fun w hw => over_t 10 1 w) (qo0 1 [] [0] [(4, .agg #[.int .i64 1, .int .i64 1, .int .u64 0, .int .u64 10, .int .u64 1])] (cD (.agg #[.int .u64 0, .int .u64 20, .int .u64 2]) Try.call54 (fun w hw => over_t 20 2 w) (qo0 1 [] [0, 4] [(6, .agg #[.int .i64 2, .int .i64 1, .int .u64 0, .int .u64 20, .int .u64 2])] (cD (.agg #[.int .u64 0, .int .u64 5, .int .u64 1]) Try.call54 (fun w hw => over_t 5 1 w) (mo0 5 [(9, .go (owns 0 0 1))] [0] (fun γ7 => [(2, .pointer (some ⟨γ7 1, 0, none⟩))]) (fun γ7 L => bx (γ7 1) (#[.slice (some ⟨γ7 0, 0, none⟩) 3 3]) 26 :: bx (γ7 0) (#[.int .i64 1, .int .i64 1, .int .u64 0, .int .u64 10, .int .u64 1, .int .i64 2, .int .i64 1, .int .u64 0, .int .u64 20, .int .u64 2, .int .i64 3, .int .i64 1, .int .u64 0, .int .u64 5, .int .u64 1]) 67 :: L) (fun γ7 => on_ (ds_ (sq_ (ma0 [(0, .go (owns 0 0 1)), (5, .go (owns 3 0 1))] [0] (fun γ8 => [(1, .slice (some ⟨γ8 0, 0, none⟩) 3 3)]) (fun γ8 L => bx (γ8 0) (#[.int .i64 1, .int .u64 3, .bool false, .int .i64 2, .int .u64 1, .bool false, .int .i64 3, .int .u64 2, .bool false]) 51 :: (L.set 2 (bx (γ3 0) (#[.slice (some ⟨γ7 0, 0, none⟩) 3 3]) 26))) (fun γ8 => ds_ (bk (owns 3 0 1) (.tuple #[.agg #[.slice (some ⟨γ7 0, 0, none⟩) 3 3], .slice (some ⟨γ8 0, 0, none⟩) 3 3]) (mo0 6 [(5, .go (owns 0 0 1))] [] (fun γ9 => [(1, .pointer (some ⟨γ9 0, 0, none⟩)), (2, .slice (some ⟨γ8 0, 0, none⟩) 3 3)]) (fun γ9 L => bx (γ9 0) (#[.slice (some ⟨γ7 0, 0, none⟩) 3 3]) 26 :: L) (fun γ9 => on_ (ds_ (sq_ (ao_ (qo0 2 [(0, .go (owns 0 0 1))] [1, 2] [(12, .agg #[.slice (some ⟨γ7 0, 0, none⟩) 3 3]), (13, .slice (some ⟨γ8 0, 0, none⟩) 3 3)] (cP (fun v L' => ∃ q_ n_ c_ Y_ Z_ el_, v = .tuple #[.slice q_ n_ c_, .int .i64 0] ∧ L' = List.take 5 ([bx (γ9 0) (#[.slice (some ⟨γ7 0, 0, none⟩) 3 3]) 26, bx (γ8 0) (#[.int .i64 1, .int .u64 3, .bool false, .int .i64 2, .int .u64 1, .bool false, .int .i64 3, .int .u64 2, .bool false]) 51, bx (γ7 1) (#[.slice (some ⟨γ7 0, 0, none⟩) 3 3]) 26, bx (γ7 0) (#[.int .i64 1, .int .i64 1, .int .u64 0, .int .u64 10, .int .u64 1, .int .i64 2, .int .i64 1, .int .u64 0, .int .u64 20, .int .u64 2, .int .i64 3, .int .i64 1, .int .u64 0, .int .u64 5, .int .u64 1]) 67, bx (γ3 0) (#[.slice (some ⟨γ7 0, 0, none⟩) 3 3]) 26]) ++ (Y_ ++ (Z_ ++ List.drop 5 ([bx (γ9 0) (#[.slice (some ⟨γ7 0, 0, none⟩) 3 3]) 26, bx (γ8 0) (#[.int .i64 1, .int .u64 3, .bool false, .int .i64 2, .int .u64 1, .bool false, .int .i64 3, .int .u64 2, .bool false]) 51, bx (γ7 1) (#[.slice (some ⟨γ7 0, 0, none⟩) 3 3]) 26, bx (γ7 0) (#[.int .i64 1, .int .i64 1, .int .u64 0, .int .u64 10, .int .u64 1, .int .i64 2, .int .i64 1, .int .u64 0, .int .u64 20, .int .u64 2, .int .i64 3, .int .i64 1, .int .u64 0, .int .u64 5, .int .u64 1]) 67, bx (γ3 0) (#[.slice (some ⟨γ7 0, 0, none⟩) 3 3]) 26]))) ∧ SlO 47 Y_ q_ n_ c_ el_ ∧ GotE 3 Z_ el_ ∧ el_.map EnA.val = [(⟨[3], ⟨0, 5, 1⟩, 2, false⟩ : En), ⟨[2], ⟨0, 20, 2⟩, 1, false⟩, ⟨[1], ⟨0, 10, 1⟩, 3, false⟩] ∧ (∀ x ∈ el_, x.U)) Try.call12 (fun w hw => (ents_t (some ⟨γ7 0, 0, none⟩) 3 3 [(⟨1, 1, 0, 10, 1⟩ : Rn), (⟨2, 1, 0, 20, 2⟩ : Rn), (⟨3, 1, 0, 5, 1⟩ : Rn)] (some ⟨γ8 0, 0, none⟩) 3 3 [(⟨1, 3, false⟩ : Wt), (⟨2, 1, false⟩ : Wt), (⟨3, 2, false⟩ : Wt)] none 0 0 [] w (sv_row (hw.row 3 rfl) rfl) rfl (by decide) lit_U12 (sv_row (hw.row 1 rfl) rfl) rfl (by decide) lit_W12 Sv.nil rfl (by decide) (fun x hx => nomatch hx) (fun x hx => nomatch hx)).mono fun e w' ⟨q_, n_, c_, Y_, Z_, el_, he, hO, hG, hV, hU, hb, hY⟩ => by rw [show chkO [(⟨1, 1, 0, 10, 1⟩ : Rn), (⟨2, 1, 0, 20, 2⟩ : Rn), (⟨3, 1, 0, 5, 1⟩ : Rn)] [(⟨1, 3, false⟩ : Wt), (⟨2, 1, false⟩ : Wt), (⟨3, 2, false⟩ : Wt)] (([] : List IntsA).map IntsA.l) = 0 from by kernel_rfl] at he hV; rw [if_pos rfl, show docV [(⟨1, 1, 0, 10, 1⟩ : Rn), (⟨2, 1, 0, 20, 2⟩ : Rn), (⟨3, 1, 0, 5, 1⟩ : Rn)] [(⟨1, 3, false⟩ : Wt), (⟨2, 1, false⟩ : Wt), (⟨3, 2, false⟩ : Wt)] (([] : List IntsA).map IntsA.l) = [(⟨[3], ⟨0, 5, 1⟩, 2, false⟩ : En), ⟨[2], ⟨0, 20, 2⟩, 1, false⟩, ⟨[1], ⟨0, 10, 1⟩, 3, false⟩] from by kernel_rfl] at hV; exact ⟨_, _, he, ⟨q_, n_, c_, Y_, Z_, el_, rfl, rfl, hO, hG, hV, hU⟩, hs_re (hw.join hb hY 5)⟩) ?_))))))))))))))))))))))))))))))
 rintro v11 L11 ⟨q11, n11, c11, Y11, Yz11, el11, rfl, rfl, hO11, hG11, hV11, hE11⟩
 refine qo0 5 [] [1, 2] [(3, .slice q11 n11 c11), (4, .int .i64 0)] (on_ (ds_ (sq_ (ao_ (mo0 4 [(0, .go (owns 0 0 1))] [3, 4] (fun γ13 => [(18, .agg #[.slice (some ⟨γ7 0, 0, none⟩) 3 3]), (19, .slice (some ⟨γ8 0, 0, none⟩) 3 3), (21, .slice (some ⟨γ13 1, 0, none⟩) 1 1)]) (fun γ13 L => bx (γ13 1) (#[.slice (some ⟨γ13 0, 0, none⟩) 2 2]) 40 :: bx (γ13 0) (#[.int .i64 1, .int .i64 3]) 3 :: L) (fun γ13 => cP (fun v L' => ∃ q_ n_ c_ Y_ Z_ el_, v = .tuple #[.slice q_ n_ c_, .int .i64 0] ∧ L' = List.take 7 (bx (γ13 1) (#[.slice (some ⟨γ13 0, 0, none⟩) 2 2]) 40 :: bx (γ13 0) (#[.int .i64 1, .int .i64 3]) 3 :: bx (γ9 0) (#[.slice (some ⟨γ7 0, 0, none⟩) 3 3]) 26 :: bx (γ8 0) (#[.int .i64 1, .int .u64 3, .bool false, .int .i64 2, .int .u64 1, .bool false, .int .i64 3, .int .u64 2, .bool false]) 51 :: bx (γ7 1) (#[.slice (some ⟨γ7 0, 0, none⟩) 3 3]) 26 :: bx (γ7 0) (#[.int .i64 1, .int .i64 1, .int .u64 0, .int .u64 10, .int .u64 1, .int .i64 2, .int .i64 1, .int .u64 0, .int .u64 20, .int .u64 2, .int .i64 3, .int .i64 1, .int .u64 0, .int .u64 5, .int .u64 1]) 67 :: bx (γ3 0) (#[.slice (some ⟨γ7 0, 0, none⟩) 3 3]) 26 :: (Y11 ++ (Yz11 ++ []))) ++ (Y_ ++ (Z_ ++ List.drop 7 (bx (γ13 1) (#[.slice (some ⟨γ13 0, 0, none⟩) 2 2]) 40 :: bx (γ13 0) (#[.int .i64 1, .int .i64 3]) 3 :: bx (γ9 0) (#[.slice (some ⟨γ7 0, 0, none⟩) 3 3]) 26 :: bx (γ8 0) (#[.int .i64 1, .int .u64 3, .bool false, .int .i64 2, .int .u64 1, .bool false, .int .i64 3, .int .u64 2, .bool false]) 51 :: bx (γ7 1) (#[.slice (some ⟨γ7 0, 0, none⟩) 3 3]) 26 :: bx (γ7 0) (#[.int .i64 1, .int .i64 1, .int .u64 0, .int .u64 10, .int .u64 1, .int .i64 2, .int .i64 1, .int .u64 0, .int .u64 20, .int .u64 2, .int .i64 3, .int .i64 1, .int .u64 0, .int .u64 5, .int .u64 1]) 67 :: bx (γ3 0) (#[.slice (some ⟨γ7 0, 0, none⟩) 3 3]) 26 :: (Y11 ++ (Yz11 ++ []))))) ∧ SlO 47 Y_ q_ n_ c_ el_ ∧ GotE 3 Z_ el_ ∧ el_.map EnA.val = [(⟨[2], ⟨0, 20, 2⟩, 1, false⟩ : En), ⟨[1, 3], ⟨0, 10, 1⟩, 2, false⟩] ∧ (∀ x ∈ el_, x.U)) Try.call12 (fun w hw => (ents_t (some ⟨γ7 0, 0, none⟩) 3 3 [(⟨1, 1, 0, 10, 1⟩ : Rn), (⟨2, 1, 0, 20, 2⟩ : Rn), (⟨3, 1, 0, 5, 1⟩ : Rn)] (some ⟨γ8 0, 0, none⟩) 3 3 [(⟨1, 3, false⟩ : Wt), (⟨2, 1, false⟩ : Wt), (⟨3, 2, false⟩ : Wt)] (some ⟨γ13 1, 0, none⟩) 1 1 [(⟨(some ⟨γ13 0, 0, none⟩), 2, 2, [1, 3]⟩ : IntsA)] w (sv_row (hw.row 5 rfl) rfl) rfl (by decide) lit_U12 (sv_row (hw.row 3 rfl) rfl) rfl (by decide) lit_W12 (sv_row (hw.row 0 rfl) rfl) rfl (by decide) (fun x hx => by rw [List.mem_singleton.1 hx]; exact ⟨(sv_row (hw.row 1 rfl) rfl), rfl, Nat.le_refl 2, (by show (2 : Nat) ≤ 9223372036854775807; decide)⟩) (fun x hx => by rw [List.mem_singleton.1 hx]; show (2 : Nat) ≤ 1000; decide)).mono fun e w' ⟨q_, n_, c_, Y_, Z_, el_, he, hO, hG, hV, hU, hb, hY⟩ => by rw [show chkO [(⟨1, 1, 0, 10, 1⟩ : Rn), (⟨2, 1, 0, 20, 2⟩ : Rn), (⟨3, 1, 0, 5, 1⟩ : Rn)] [(⟨1, 3, false⟩ : Wt), (⟨2, 1, false⟩ : Wt), (⟨3, 2, false⟩ : Wt)] ([(⟨(some ⟨γ13 0, 0, none⟩), 2, 2, [1, 3]⟩ : IntsA)].map IntsA.l) = 0 from by kernel_rfl] at he hV; rw [if_pos rfl, show docV [(⟨1, 1, 0, 10, 1⟩ : Rn), (⟨2, 1, 0, 20, 2⟩ : Rn), (⟨3, 1, 0, 5, 1⟩ : Rn)] [(⟨1, 3, false⟩ : Wt), (⟨2, 1, false⟩ : Wt), (⟨3, 2, false⟩ : Wt)] ([(⟨(some ⟨γ13 0, 0, none⟩), 2, 2, [1, 3]⟩ : IntsA)].map IntsA.l) = [(⟨[2], ⟨0, 20, 2⟩, 1, false⟩ : En), ⟨[1, 3], ⟨0, 10, 1⟩, 2, false⟩] from by kernel_rfl] at hV; exact ⟨_, _, he, ⟨q_, n_, c_, Y_, Z_, el_, rfl, rfl, hO, hG, hV, hU⟩, hs_re (hw.join hb hY 7)⟩) ?_))))))
 rintro v14 L14 ⟨q14, n14, c14, Y14, Yz14, el14, rfl, rfl, hO14, hG14, hV14, hE14⟩
 refine qo0 5 [] [3, 4] [(5, .slice q14 n14 c14), (6, .int .i64 0)] (on_ (ds_ (sq_ (at_rebase fun wR16 hS16 => ?_))))
 obtain ⟨a1, a2, a3, ha1, ha2, ha3, va1, va2, va3, hl1⟩ := three_at hV11
 obtain ⟨b1, b2, hb1, hb2, vb1, vb2, hl2⟩ := two_at hV14
 have hs11 := hO11.sub hS16 (List.Sublist.cons _ (List.Sublist.cons _ (List.Sublist.cons _ (List.Sublist.cons _ (List.Sublist.cons _ (List.Sublist.cons _ (List.Sublist.cons _ (List.Sublist.trans (List.Sublist.trans (List.sublist_append_left Y11 _) (List.sublist_append_right Yz14 _)) (List.sublist_append_right Y14 _)))))))))
 have hnn11 := hO11.len
 have hrd11 := GotE.reads hG11 hE11 hS16 (List.Sublist.cons _ (List.Sublist.cons _ (List.Sublist.cons _ (List.Sublist.cons _ (List.Sublist.cons _ (List.Sublist.cons _ (List.Sublist.cons _ (List.Sublist.trans (List.Sublist.trans (List.Sublist.trans (List.sublist_append_left Yz11 _) (List.sublist_append_right Y11 _)) (List.sublist_append_right Yz14 _)) (List.sublist_append_right Y14 _)))))))))
 have hs14 := hO14.sub hS16 (List.Sublist.cons _ (List.Sublist.cons _ (List.Sublist.cons _ (List.Sublist.cons _ (List.Sublist.cons _ (List.Sublist.cons _ (List.Sublist.cons _ (List.sublist_append_left Y14 _))))))))
 have hnn14 := hO14.len
 have hrd14 := GotE.reads hG14 hE14 hS16 (List.Sublist.cons _ (List.Sublist.cons _ (List.Sublist.cons _ (List.Sublist.cons _ (List.Sublist.cons _ (List.Sublist.cons _ (List.Sublist.cons _ (List.Sublist.trans (List.sublist_append_left Yz14 _) (List.sublist_append_right Y14 _)))))))))
 have hra1 := hrd11 a1 (List.mem_of_getElem? ha1)
 have hsa1 := hra1.sv
 have hna1 := hra1.hn
 have hra2 := hrd11 a2 (List.mem_of_getElem? ha2)
 have hsa2 := hra2.sv
 have hna2 := hra2.hn
 have hrb2 := hrd14 b2 (List.mem_of_getElem? hb2)
 have hsb2 := hrb2.sv
 have hnb2 := hrb2.hn
 have la1 : a1.l[0]? = some 3 := by rw [show a1.l = [3] from congrArg En.mem va1]; rfl
 have la2 : a2.l[0]? = some 2 := by rw [show a2.l = [2] from congrArg En.mem va2]; rfl
 have lb2 : b2.n = 2 := by rw [hnb2, show b2.l = [1, 3] from congrArg En.mem vb2]; rfl
 have ka1 : a1.l.length = 1 := by rw [show a1.l = [3] from congrArg En.mem va1]; rfl
 have ka2 : a2.l.length = 1 := by rw [show a2.l = [2] from congrArg En.mem va2]; rfl
 obtain ⟨b18, o18, rfl⟩ := hs11.pos (i := 0) (by omega)
 obtain ⟨b20, o20, hbo20⟩ := hsa1.pos (i := 0) (by omega)
 have hsv20 := hsa1
 rw [hbo20] at hsv20
 obtain ⟨b22, o22, hbo22⟩ := hsa2.pos (i := 0) (by omega)
 have hsv22 := hsa2
 rw [hbo22] at hsv22
 obtain ⟨b24, o24, rfl⟩ := hs14.pos (i := 1) (by omega)
 refine qa [(9, .yes), (14, .yes), (18, .at b18 o18 0), (20, .go (outs b18 (o18 + 0 * 6) [.slice a1.p a1.n a1.cap])), (21, .at b20 o20 0), (22, .go (outs b20 (o20 + 0 * 1) [.int .i64 3])), (27, .at b18 o18 1), (29, .go (outs b18 (o18 + 1 * 6) [.slice a2.p a2.n a2.cap])), (30, .at b22 o22 0), (31, .go (outs b22 (o22 + 0 * 1) [.int .i64 2])), (36, .at b24 o24 1), (38, .go (outs b24 (o24 + 1 * 6) [.slice b2.p b2.n b2.cap])), (40, .yes)] [] [(0, .bool true)] ([((n11 : Nat) : Int) = (3 : Int)] ++ ([((n14 : Nat) : Int) = (2 : Int)] ++ ([(some ⟨b18, o18, none⟩ : Option Addr) = some ⟨b18, o18, none⟩, 0 = ((0 : Nat) : Int), 0 < n11] ++ (cellsP wR16 b18 (o18 + 0 * 6) [.slice a1.p a1.n a1.cap] ++ ([(a1.p : Option Addr) = some ⟨b20, o20, none⟩, 0 = ((0 : Nat) : Int), 0 < a1.n] ++ (cellsP wR16 b20 (o20 + 0 * 1) [.int .i64 3] ++ ([(some ⟨b18, o18, none⟩ : Option Addr) = some ⟨b18, o18, none⟩, 1 = ((1 : Nat) : Int), 1 < n11] ++ (cellsP wR16 b18 (o18 + 1 * 6) [.slice a2.p a2.n a2.cap] ++ ([(a2.p : Option Addr) = some ⟨b22, o22, none⟩, 0 = ((0 : Nat) : Int), 0 < a2.n] ++ (cellsP wR16 b22 (o22 + 0 * 1) [.int .i64 2] ++ ([(some ⟨b24, o24, none⟩ : Option Addr) = some ⟨b24, o24, none⟩, 1 = ((1 : Nat) : Int), 1 < n14] ++ (cellsP wR16 b24 (o24 + 1 * 6) [.slice b2.p b2.n b2.cap] ++ ([((b2.n : Nat) : Int) = (2 : Int)]))))))))))))) (alA (al1 (by omega)) (alA (al1 (by omega)) (alA (al2 rfl (al2 rfl (al1 (by omega)))) (alA (rd_pre (hs11.get ha1) _ rfl) (alA (al2 hbo20 (al2 rfl (al1 (by omega)))) (alA (rd_pre (hsv20.get la1) _ rfl) (alA (al2 rfl (al2 rfl (al1 (by omega)))) (alA (rd_pre (hs11.get ha2) _ rfl) (alA (al2 hbo22 (al2 rfl (al1 (by omega)))) (alA (rd_pre (hsv22.get la2) _ rfl) (alA (al2 rfl (al2 rfl (al1 (by omega)))) (alA (rd_pre (hs14.get hb2) _ rfl) (al1 (by omega)))))))))))))) (ds_ (rt ([]) (.bool true) ?_))
 exact fun w' hw => ⟨rfl, (hS16.over hw).below⟩
end Go.Proofs.Ytoljahfofkmdaaa

/-! Order: what the document says of entities. -/
namespace Go.Proofs.Ytoljahfofkmdaaa
open Go Go.RowKit

end Go.Proofs.Ytoljahfofkmdaaa

/-! The walker: a scope without a goto, a label. -/
namespace Go.Proofs.Ytoljahfofkmdaaa
open Go Go.RowKit
section
variable {P : Program} {b : Frame} {a : Act} {ks : List Item} {cs : List Frame} {w : World} {F : Fence} {n : Nat} {Q : Exit → Act → World → Prop}
end
section
variable {E : Env} {k : List Fr} {l : Sl} {L : List Ob}
end
end Go.Proofs.Ytoljahfofkmdaaa

/-! Order: who is first; the same entities. -/
namespace Go.Proofs.Ytoljahfofkmdaaa
open Go Go.RowKit

end Go.Proofs.Ytoljahfofkmdaaa

/-! The statement OrderOne, walked. -/
namespace Go.Proofs.Ytoljahfofkmdaaa
open Go Go.RowKit

set_option maxRecDepth 100000 in
theorem like_t (a b : EnA) (w : World)
 (ra : a.Reads w)
 (rb : b.Reads w)
 (h0a : 0 < a.l.length) (h0b : 0 < b.l.length)
 : Calls Try.prog 21 #[.agg #[.slice a.p a.n a.cap, .int .u64 a.th, .int .u64 a.tl, .int .u64 a.tw, .int .u64 a.ord, .bool a.fresh], .agg #[.slice b.p b.n b.cap, .int .u64 b.th, .int .u64 b.tl, .int .u64 b.tw, .int .u64 b.ord, .bool b.fresh]] w fun e w' => e = .returned (.bool (likeE a.val b.val)) ∧ Below w.heap.size w w' := by
 have hsa : Sv w a.p a.l := ra.sv
 have hna : a.n = a.l.length := ra.hn
 have hca := ra.hc
 have hba := ra.hb
 have hsb : Sv w b.p b.l := rb.sv
 have hnb : b.n = b.l.length := rb.hn
 have hcb := rb.hc
 have hbb := rb.hb
 refine enter (Hs.start w) Try.func21 rfl Try.ntmps21 rfl (sq_ (ma0 [] [] (fun γ1 => [(2, .pointer (some ⟨γ1 0, 0, none⟩)), (3, .pointer (some ⟨γ1 1, 0, none⟩))]) (fun γ1 L => bx (γ1 1) (#[.slice b.p b.n b.cap, .int .u64 b.th, .int .u64 b.tl, .int .u64 b.tw, .int .u64 b.ord, .bool b.fresh]) 47 :: bx (γ1 0) (#[.slice a.p a.n a.cap, .int .u64 a.th, .int .u64 a.tl, .int .u64 a.tw, .int .u64 a.ord, .bool a.fresh]) 47 :: L) (fun γ1 => ds_ (sq_ ?_))))
 rcases q3 : a.fresh with _ | _
 ·
  rcases q5 : b.fresh with _ | _
  ·
   refine at_calm rfl (by kernel_rfl) (by kernel_rfl) ?_
   refine cm 10 [(1, .go (owns 1 5 1)), (3, .go (owns 0 5 1)), (4, .eqs true), (7, .go (owns 1 1 3)), (9, .go (owns 0 1 3))] [2, 3] [(10, .bool true), (12, .agg #[.int .u64 a.th, .int .u64 a.tl, .int .u64 a.tw]), (14, .agg #[.int .u64 b.th, .int .u64 b.tl, .int .u64 b.tw])] ([EqRun Try.prog .eql 4 (.tmp 6) (.tmp 8) (.bool false) (.bool false) true]) (by kernel_rfl) rfl (al1 (bool_eq false false)) ?_
   refine cK (.int .i64 (cmpF a.t b.t)) Try.call17 (fun w hw => fcmp_t a.t b.t w ra.tU rb.tU) ?_
   by_cases q8 : ((cmpF a.t b.t) : Int) = (0 : Int)
   ·
    by_cases q10 : (a.ord : Int) = (b.ord : Int)
    ·
     obtain ⟨b12, o12, hbo12⟩ := hsa.pos (i := 0) (by omega)
     have hsv12 := hsa
     rw [hbo12] at hsv12
     obtain ⟨x14, hx14⟩ := get_some (l := a.l) (m := 0) (by omega)
     obtain ⟨b16, o16, hbo16⟩ := hsb.pos (i := 0) (by omega)
     have hsv16 := hsb
     rw [hbo16] at hsv16
     obtain ⟨x18, hx18⟩ := get_some (l := b.l) (m := 0) (by omega)
     by_cases q20 : (x14 : Int) = (x18 : Int)
     ·
      refine cm 21 [(11, .yes), (15, .go (owns 1 4 1)), (17, .go (owns 0 4 1)), (18, .yes), (22, .go (owns 1 0 1)), (23, .at b12 o12 0), (24, .go (outs b12 (o12 + 0 * 1) [.int .i64 x14])), (26, .go (owns 0 0 1)), (27, .at b16 o16 0), (28, .go (outs b16 (o16 + 0 * 1) [.int .i64 x18])), (29, .yes)] [] [(4, .bool true)] ([((cmpF a.t b.t) : Int) = (0 : Int)] ++ ([(a.ord : Int) = (b.ord : Int)] ++ ([(a.p : Option Addr) = some ⟨b12, o12, none⟩, 0 = ((0 : Nat) : Int), 0 < a.n] ++ (cellsP w b12 (o12 + 0 * 1) [.int .i64 x14] ++ ([(b.p : Option Addr) = some ⟨b16, o16, none⟩, 0 = ((0 : Nat) : Int), 0 < b.n] ++ (cellsP w b16 (o16 + 0 * 1) [.int .i64 x18] ++ ([(x14 : Int) = (x18 : Int)]))))))) (by kernel_rfl) rfl (alA (al1 q8) (alA (al1 q10) (alA (al2 hbo12 (al2 rfl (al1 (by omega)))) (alA (rd_pre (hsv12.get hx14) _ rfl) (alA (al2 hbo16 (al2 rfl (al1 (by omega)))) (alA (rd_pre (hsv16.get hx18) _ rfl) (al1 q20))))))) ?_
      refine calm_nil' ?_
      refine ds_ (rt ([]) (.bool true) ?_)
      exact fun w' hw => ⟨by rw [like_y (a := a.val) (b := b.val) (q3.trans q5.symm) q8 (by show a.ord = b.ord; omega) hx14 hx18 (by omega)], hw.below⟩
     ·
      refine cm 21 [(11, .yes), (15, .go (owns 1 4 1)), (17, .go (owns 0 4 1)), (18, .yes), (22, .go (owns 1 0 1)), (23, .at b12 o12 0), (24, .go (outs b12 (o12 + 0 * 1) [.int .i64 x14])), (26, .go (owns 0 0 1)), (27, .at b16 o16 0), (28, .go (outs b16 (o16 + 0 * 1) [.int .i64 x18])), (29, .no)] [] [(4, .bool false)] ([((cmpF a.t b.t) : Int) = (0 : Int)] ++ ([(a.ord : Int) = (b.ord : Int)] ++ ([(a.p : Option Addr) = some ⟨b12, o12, none⟩, 0 = ((0 : Nat) : Int), 0 < a.n] ++ (cellsP w b12 (o12 + 0 * 1) [.int .i64 x14] ++ ([(b.p : Option Addr) = some ⟨b16, o16, none⟩, 0 = ((0 : Nat) : Int), 0 < b.n] ++ (cellsP w b16 (o16 + 0 * 1) [.int .i64 x18] ++ ([¬ ((x14 : Int) = (x18 : Int))]))))))) (by kernel_rfl) rfl (alA (al1 q8) (alA (al1 q10) (alA (al2 hbo12 (al2 rfl (al1 (by omega)))) (alA (rd_pre (hsv12.get hx14) _ rfl) (alA (al2 hbo16 (al2 rfl (al1 (by omega)))) (alA (rd_pre (hsv16.get hx18) _ rfl) (al1 q20))))))) ?_
      refine calm_nil' ?_
      refine ds_ (rt ([]) (.bool false) ?_)
      exact fun w' hw => ⟨by rw [like_m (a := a.val) (b := b.val) hx14 hx18 (by omega)], hw.below⟩
    ·
     refine cm 21 [(11, .yes), (15, .go (owns 1 4 1)), (17, .go (owns 0 4 1)), (18, .no)] [] [(4, .bool false)] ([((cmpF a.t b.t) : Int) = (0 : Int)] ++ ([¬ ((a.ord : Int) = (b.ord : Int))])) (by kernel_rfl) rfl (alA (al1 q8) (al1 q10)) ?_
     refine calm_nil' ?_
     refine ds_ (rt ([]) (.bool false) ?_)
     exact fun w' hw => ⟨by rw [like_o (a := a.val) (b := b.val) (by show ¬ a.ord = b.ord; omega)], hw.below⟩
   ·
    refine cm 21 [(11, .no)] [] [(4, .bool false)] ([¬ (((cmpF a.t b.t) : Int) = (0 : Int))]) (by kernel_rfl) rfl (al1 q8) ?_
    refine calm_nil' ?_
    refine ds_ (rt ([]) (.bool false) ?_)
    exact fun w' hw => ⟨by rw [like_t' (a := a.val) (b := b.val) q8], hw.below⟩
  ·
   refine cq [(1, .go (owns 1 5 1)), (3, .go (owns 0 5 1)), (4, .eqs false)] [] [(4, .bool false)] ([EqRun Try.prog .eql 4 (.tmp 6) (.tmp 8) (.bool false) (.bool true) false]) rfl (by kernel_rfl) (by kernel_rfl) (by kernel_rfl) (al1 (bool_eq false true)) (ds_ (rt ([]) (.bool false) ?_))
   exact fun w' hw => ⟨by rw [like_f (a := a.val) (b := b.val) (fun h => by have h2 : a.fresh = b.fresh := h; rw [q3, q5] at h2; cases h2)], hw.below⟩
 ·
  rcases q27 : b.fresh with _ | _
  ·
   refine cq [(1, .go (owns 1 5 1)), (3, .go (owns 0 5 1)), (4, .eqs false)] [] [(4, .bool false)] ([EqRun Try.prog .eql 4 (.tmp 6) (.tmp 8) (.bool true) (.bool false) false]) rfl (by kernel_rfl) (by kernel_rfl) (by kernel_rfl) (al1 (bool_eq true false)) (ds_ (rt ([]) (.bool false) ?_))
   exact fun w' hw => ⟨by rw [like_f (a := a.val) (b := b.val) (fun h => by have h2 : a.fresh = b.fresh := h; rw [q3, q27] at h2; cases h2)], hw.below⟩
  ·
   refine at_calm rfl (by kernel_rfl) (by kernel_rfl) ?_
   refine cm 10 [(1, .go (owns 1 5 1)), (3, .go (owns 0 5 1)), (4, .eqs true), (7, .go (owns 1 1 3)), (9, .go (owns 0 1 3))] [2, 3] [(10, .bool true), (12, .agg #[.int .u64 a.th, .int .u64 a.tl, .int .u64 a.tw]), (14, .agg #[.int .u64 b.th, .int .u64 b.tl, .int .u64 b.tw])] ([EqRun Try.prog .eql 4 (.tmp 6) (.tmp 8) (.bool true) (.bool true) true]) (by kernel_rfl) rfl (al1 (bool_eq true true)) ?_
   refine cK (.int .i64 (cmpF a.t b.t)) Try.call17 (fun w hw => fcmp_t a.t b.t w ra.tU rb.tU) ?_
   by_cases q31 : ((cmpF a.t b.t) : Int) = (0 : Int)
   ·
    by_cases q33 : (a.ord : Int) = (b.ord : Int)
    ·
     obtain ⟨b35, o35, hbo35⟩ := hsa.pos (i := 0) (by omega)
     have hsv35 := hsa
     rw [hbo35] at hsv35
     obtain ⟨x37, hx37⟩ := get_some (l := a.l) (m := 0) (by omega)
     obtain ⟨b39, o39, hbo39⟩ := hsb.pos (i := 0) (by omega)
     have hsv39 := hsb
     rw [hbo39] at hsv39
     obtain ⟨x41, hx41⟩ := get_some (l := b.l) (m := 0) (by omega)
     by_cases q43 : (x37 : Int) = (x41 : Int)
     ·
      refine cm 21 [(11, .yes), (15, .go (owns 1 4 1)), (17, .go (owns 0 4 1)), (18, .yes), (22, .go (owns 1 0 1)), (23, .at b35 o35 0), (24, .go (outs b35 (o35 + 0 * 1) [.int .i64 x37])), (26, .go (owns 0 0 1)), (27, .at b39 o39 0), (28, .go (outs b39 (o39 + 0 * 1) [.int .i64 x41])), (29, .yes)] [] [(4, .bool true)] ([((cmpF a.t b.t) : Int) = (0 : Int)] ++ ([(a.ord : Int) = (b.ord : Int)] ++ ([(a.p : Option Addr) = some ⟨b35, o35, none⟩, 0 = ((0 : Nat) : Int), 0 < a.n] ++ (cellsP w b35 (o35 + 0 * 1) [.int .i64 x37] ++ ([(b.p : Option Addr) = some ⟨b39, o39, none⟩, 0 = ((0 : Nat) : Int), 0 < b.n] ++ (cellsP w b39 (o39 + 0 * 1) [.int .i64 x41] ++ ([(x37 : Int) = (x41 : Int)]))))))) (by kernel_rfl) rfl (alA (al1 q31) (alA (al1 q33) (alA (al2 hbo35 (al2 rfl (al1 (by omega)))) (alA (rd_pre (hsv35.get hx37) _ rfl) (alA (al2 hbo39 (al2 rfl (al1 (by omega)))) (alA (rd_pre (hsv39.get hx41) _ rfl) (al1 q43))))))) ?_
      refine calm_nil' ?_
      refine ds_ (rt ([]) (.bool true) ?_)
      exact fun w' hw => ⟨by rw [like_y (a := a.val) (b := b.val) (q3.trans q27.symm) q31 (by show a.ord = b.ord; omega) hx37 hx41 (by omega)], hw.below⟩
     ·
      refine cm 21 [(11, .yes), (15, .go (owns 1 4 1)), (17, .go (owns 0 4 1)), (18, .yes), (22, .go (owns 1 0 1)), (23, .at b35 o35 0), (24, .go (outs b35 (o35 + 0 * 1) [.int .i64 x37])), (26, .go (owns 0 0 1)), (27, .at b39 o39 0), (28, .go (outs b39 (o39 + 0 * 1) [.int .i64 x41])), (29, .no)] [] [(4, .bool false)] ([((cmpF a.t b.t) : Int) = (0 : Int)] ++ ([(a.ord : Int) = (b.ord : Int)] ++ ([(a.p : Option Addr) = some ⟨b35, o35, none⟩, 0 = ((0 : Nat) : Int), 0 < a.n] ++ (cellsP w b35 (o35 + 0 * 1) [.int .i64 x37] ++ ([(b.p : Option Addr) = some ⟨b39, o39, none⟩, 0 = ((0 : Nat) : Int), 0 < b.n] ++ (cellsP w b39 (o39 + 0 * 1) [.int .i64 x41] ++ ([¬ ((x37 : Int) = (x41 : Int))]))))))) (by kernel_rfl) rfl (alA (al1 q31) (alA (al1 q33) (alA (al2 hbo35 (al2 rfl (al1 (by omega)))) (alA (rd_pre (hsv35.get hx37) _ rfl) (alA (al2 hbo39 (al2 rfl (al1 (by omega)))) (alA (rd_pre (hsv39.get hx41) _ rfl) (al1 q43))))))) ?_
      refine calm_nil' ?_
      refine ds_ (rt ([]) (.bool false) ?_)
      exact fun w' hw => ⟨by rw [like_m (a := a.val) (b := b.val) hx37 hx41 (by omega)], hw.below⟩
    ·
     refine cm 21 [(11, .yes), (15, .go (owns 1 4 1)), (17, .go (owns 0 4 1)), (18, .no)] [] [(4, .bool false)] ([((cmpF a.t b.t) : Int) = (0 : Int)] ++ ([¬ ((a.ord : Int) = (b.ord : Int))])) (by kernel_rfl) rfl (alA (al1 q31) (al1 q33)) ?_
     refine calm_nil' ?_
     refine ds_ (rt ([]) (.bool false) ?_)
     exact fun w' hw => ⟨by rw [like_o (a := a.val) (b := b.val) (by show ¬ a.ord = b.ord; omega)], hw.below⟩
   ·
    refine cm 21 [(11, .no)] [] [(4, .bool false)] ([¬ (((cmpF a.t b.t) : Int) = (0 : Int))]) (by kernel_rfl) rfl (al1 q31) ?_
    refine calm_nil' ?_
    refine ds_ (rt ([]) (.bool false) ?_)
    exact fun w' hw => ⟨by rw [like_t' (a := a.val) (b := b.val) q31], hw.below⟩

end Go.Proofs.Ytoljahfofkmdaaa

/-! The statement OrderEach, walked. -/
namespace Go.Proofs.Ytoljahfofkmdaaa
open Go Go.RowKit
theorem hs_re4 {w0 w : World} {A B C D X R : List Ob} (h : Hs w0 (X ++ ((A ++ (B ++ (C ++ D))) ++ R)) w) : Hs w0 (X ++ (A ++ (B ++ (C ++ (D ++ R))))) w := by simpa only [List.append_assoc] using h

set_option maxRecDepth 100000 in
theorem iequal_t (p : Option Addr) (n cap : Nat) (l : List Int) (p2 : Option Addr) (n2 cap2 : Nat) (l2 : List Int) (w : World)
 (hsl : Sv w p l) (hn : n = l.length) (hb : n ≤ 1000)
 (hsl2 : Sv w p2 l2) (hn2 : n2 = l2.length) (hb2 : n2 ≤ 1000)
 : Calls Try.prog 23 #[.slice p n cap, .slice p2 n2 cap2] w fun e w' => e = .returned (.bool (decide (l = l2))) ∧ Below w.heap.size w w' := by
 refine enter (Hs.start w) Try.func23 rfl Try.ntmps23 rfl (sq_ (qa0 [] [0, 1] [] (ds_ (sq_ (sq_ ?_)))))
 by_cases q3 : ((n : Nat) : Int) ≠ ((n2 : Nat) : Int)
 ·
  refine qa [(4, .yes)] [0, 1] [(10, .bool true)] ([((n : Nat) : Int) ≠ ((n2 : Nat) : Int)]) (al1 q3) (ds_ (t_ (sq_ (qa0 [] [] [(4, .bool false)] (ds_ (rt ([]) (.bool false) ?_))))))
  exact fun w' hw => ⟨by rw [dsame_len (l := l) (l2 := l2) (by omega)], hw.below⟩
 ·
  refine qa [(4, .no)] [0, 1] [(10, .bool false)] ([¬ (((n : Nat) : Int) ≠ ((n2 : Nat) : Int))]) (al1 q3) (ds_ (f_ (at_skip (ds_ (sq_ (sq_ (qa0 [] [0, 1] [(12, .int .i64 (n : Nat)), (13, .int .i64 0)] (ds_ (at_block (at_loop (α := Nat) [0, 1, 12, 13] (fun j => [(0, .slice p n cap), (1, .slice p2 n2 cap2), (12, .int .i64 (n : Nat)), (13, .int .i64 (j : Nat))]) (fun j => []) (fun j => j ≤ n ∧ l.take j = l2.take j) (fun j => n - j) 0 (by kernel_rfl) rfl ⟨Nat.zero_le _, rfl⟩ ?_))))))))))
  rintro j
  rintro ⟨hj, hI⟩
  refine sq_ ?_
  by_cases q9 : ((j : Nat) : Int) < ((n : Nat) : Int)
  ·
   refine qa [(0, .yes)] [0, 1, 12, 13] [(14, .bool true)] ([((j : Nat) : Int) < ((n : Nat) : Int)]) (al1 q9) (ds_ (sq_ (t_ (at_skip (ds_ (sq_ (at_block (sq_ (qa0 [] [0, 1, 12, 13] [(5, .int .i64 (j : Nat))] (ds_ (sq_ ?_)))))))))))
   obtain ⟨b13, o13, rfl⟩ := hsl.pos (i := j) (by omega)
   obtain ⟨x15, hx15⟩ := get_some (l := l) (m := j) (by omega)
   obtain ⟨b17, o17, rfl⟩ := hsl2.pos (i := j) (by omega)
   obtain ⟨x19, hx19⟩ := get_some (l := l2) (m := j) (by omega)
   by_cases q21 : (x15 : Int) ≠ (x19 : Int)
   ·
    refine cq [(2, .at b13 o13 j), (3, .go (outs b13 (o13 + j * 1) [.int .i64 x15])), (6, .at b17 o17 j), (7, .go (outs b17 (o17 + j * 1) [.int .i64 x19])), (8, .yes)] [0, 1, 12, 13] [(24, .bool true)] ([(some ⟨b13, o13, none⟩ : Option Addr) = some ⟨b13, o13, none⟩, (j : Nat) = ((j : Nat) : Int), j < n] ++ (cellsP w b13 (o13 + j * 1) [.int .i64 x15] ++ ([(some ⟨b17, o17, none⟩ : Option Addr) = some ⟨b17, o17, none⟩, (j : Nat) = ((j : Nat) : Int), j < n2] ++ (cellsP w b17 (o17 + j * 1) [.int .i64 x19] ++ ([(x15 : Int) ≠ (x19 : Int)]))))) rfl (by kernel_rfl) (by kernel_rfl) (by kernel_rfl) (alA (al2 rfl (al2 rfl (al1 (by omega)))) (alA (rd_pre (hsl.get hx15) _ rfl) (alA (al2 rfl (al2 rfl (al1 (by omega)))) (alA (rd_pre (hsl2.get hx19) _ rfl) (al1 q21))))) (ds_ (t_ (sq_ (qa0 [] [] [(4, .bool false)] (ds_ (rt ([]) (.bool false) ?_))))))
    exact fun w' hw => ⟨by rw [dsame_no hx15 hx19 (by omega)], hw.below⟩
   ·
    refine cq [(2, .at b13 o13 j), (3, .go (outs b13 (o13 + j * 1) [.int .i64 x15])), (6, .at b17 o17 j), (7, .go (outs b17 (o17 + j * 1) [.int .i64 x19])), (8, .no)] [0, 1, 12, 13] [(24, .bool false)] ([(some ⟨b13, o13, none⟩ : Option Addr) = some ⟨b13, o13, none⟩, (j : Nat) = ((j : Nat) : Int), j < n] ++ (cellsP w b13 (o13 + j * 1) [.int .i64 x15] ++ ([(some ⟨b17, o17, none⟩ : Option Addr) = some ⟨b17, o17, none⟩, (j : Nat) = ((j : Nat) : Int), j < n2] ++ (cellsP w b17 (o17 + j * 1) [.int .i64 x19] ++ ([¬ ((x15 : Int) ≠ (x19 : Int))]))))) rfl (by kernel_rfl) (by kernel_rfl) (by kernel_rfl) (alA (al2 rfl (al2 rfl (al1 (by omega)))) (alA (rd_pre (hsl.get hx15) _ rfl) (alA (al2 rfl (al2 rfl (al1 (by omega)))) (alA (rd_pre (hsl2.get hx19) _ rfl) (al1 q21))))) (ds_ (f_ (at_skip (done_block (ds_ (qa [(0, .fit)] [0, 1, 12] [(13, .int .i64 (j + 1 : Nat))] ([Fit .i64 ((j + 1 : Nat))]) (al1 (fit64 (by omega) (by omega))) ?_))))))
    exact dr [0, 1, 12, 13] (j + 1) ⟨by omega, dsame_on hI hx15 hx19 (by omega)⟩
  ·
   refine qa [(0, .no)] [0, 1, 12, 13] [(14, .bool false)] ([¬ (((j : Nat) : Int) < ((n : Nat) : Int))]) (al1 q9) (ds_ (sq_ (f_ (at_leave _ rfl (ds_ (sq_ (qa0 [] [] [(4, .bool true)] (ds_ (rt ([]) (.bool true) ?_)))))))))
   exact fun w' hw => ⟨by rw [dsame_yes hI (by omega) (by omega)], hw.below⟩

end Go.Proofs.Ytoljahfofkmdaaa

/-! A division whose divisor is not known. -/
namespace Go.Proofs.Ytoljahfofkmdaaa
open Go Go.RowKit

theorem run_quo {P : Program} {ρ : Operand → Value} {T U : TypeId} {x y : Operand} {kd : IntKind} {a b : Int} (v : Int) {o : Oper} (ho : o.op = .binOp .quo T x y U) (hx : ρ x = .int kd a) (hy : ρ y = .int kd b) (h0 : ¬ b = 0) (hv : kd.wrap (a.tdiv b) = v) (w : World) :
    (execOp ρ o).run P w = .ok (.value (.int kd v)) w := by
  have g : (eqGuard .quo T x y (.int kd a) (.int kd b)) = (pure () : Sem Unit) := by unfold eqGuard; simp
  unfold execOp
  simp only [ho, hx, hy, g]
  subst hv
  simp [binOp, Op.intDiv, h0]
end Go.Proofs.Ytoljahfofkmdaaa

/-! The statement OrderTurned, walked. -/
namespace Go.Proofs.Ytoljahfofkmdaaa
open Go Go.RowKit

set_option maxRecDepth 100000 in
theorem turned_law (p : Option Addr) (n cap : Nat) (ts : List Rn) (pw : Option Addr) (nw capw : Nat) (ws : List Wt) (q : Option Addr) (m capq : Nat) (al : List IntsA) (turn : Int) (w : World)
 (hts : Sv w p ts) (hn : n = ts.length) (hcp : n ≤ cap) (hbg : cap ≤ 9223372036854775807)
 (hws : Sv w pw ws) (hnw : nw = ws.length) (hcw : nw ≤ capw) (hbw : capw ≤ 9223372036854775807)
 (hal : Sv w q al) (hma : m = al.length) (hcq : m ≤ capq) (hbq : capq ≤ 9223372036854775807) (hnm : ∀ x ∈ al, x.Reads w)
 (hU : ∀ r ∈ ts, r.U) (hWU : ∀ x ∈ ws, x.U)
 : Calls Try.prog 6 #[.agg #[.slice p n cap, .slice pw nw capw, .slice q m capq], .int .i64 turn] w fun e w' => e = .returned (.bool true) ∧ Below w.heap.size w w' := by
 refine enter (Hs.start w) Try.func6 rfl Try.ntmps6 rfl (sq_ (ma0 [] [1] (fun γ1 => [(2, .pointer (some ⟨γ1 0, 0, none⟩))]) (fun γ1 L => bx (γ1 0) (#[.slice p n cap, .slice pw nw capw, .slice q m capq]) 30 :: L) (fun γ1 => ds_ (sq_ (sq_ (ao_ (cD (.bool true) Try.call9 (fun w hw => wakes_t w) (qo0 1 [] [1, 2] [(14, .bool false)] (on_ (ds_ (f_ (at_skip (ds_ (sq_ (ao_ (qo0 1 [(0, .go (owns 0 0 3))] [1] [(15, .agg #[.slice p n cap, .slice pw nw capw, .slice q m capq])] (cP (fun v L' => ∃ q1 n1 c1 Y1 q2 n2 c2 Y2 q3 n3 c3 Y3 bl_ Z_, v = .agg #[.slice q1 n1 c1, .slice q2 n2 c2, .slice q3 n3 c3] ∧ L' = List.take 1 ([bx (γ1 0) (#[.slice p n cap, .slice pw nw capw, .slice q m capq]) 30]) ++ (Y1 ++ (Y2 ++ (Y3 ++ (Z_ ++ List.drop 1 ([bx (γ1 0) (#[.slice p n cap, .slice pw nw capw, .slice q m capq]) 30]))))) ∧ SlO 67 Y1 q1 n1 c1 (ts.take 17) ∧ SlO 51 Y2 q2 n2 c2 (ws.take 17) ∧ SlO 40 Y3 q3 n3 c3 bl_ ∧ GotR 3 Z_ bl_ ∧ bl_.map IntsA.l = (shortG (al.map IntsA.l))) Try.call10 (fun w hw => (rowshort_t p n cap ts pw nw capw ws q m capq al w (hts.kept hw.below) hn hcp hbg (hws.kept hw.below) hnw hcw hbw (hal.kept hw.below) hma hcq hbq (fun x hx => (hnm x hx).kept hw.below)).mono fun e w' ⟨q1, n1, c1, Y1, q2, n2, c2, Y2, q3, n3, c3, Y3, bl_, Z_, he, hA, hB, hC, hG, hV, hb, hY⟩ => ⟨_, _, he, ⟨q1, n1, c1, Y1, q2, n2, c2, Y2, q3, n3, c3, Y3, bl_, Z_, rfl, rfl, hA, hB, hC, hG, hV⟩, hs_re4 (hw.join hb hY 1)⟩) ?_)))))))))))))))))
 rintro v5 L5 ⟨qa5, na5, ca5, Ya5, qb5, nb5, cb5, Yb5, qc5, nc5, cc_5, Yc5, gl5, Yd5, rfl, rfl, hA5, hB5, hC5, hG5, hV5⟩
 have hla5 := hA5.len
 rw [List.length_take] at hla5
 have hlb5 := hB5.len
 rw [List.length_take] at hlb5
 have hlc5 := hC5.len
 have hgf5 := sg_facts hV5
 have hlx5 := hA5.len
 have hly5 := hB5.len
 refine ops_rebase fun wR7 hS7 => ?_
 have hsa := hA5.sub hS7 (List.Sublist.cons _ (List.sublist_append_left Ya5 _))
 have hsb := hB5.sub hS7 (List.Sublist.cons _ (List.Sublist.trans (List.sublist_append_left Yb5 _) (List.sublist_append_right Ya5 _)))
 have hsc := hC5.sub hS7 (List.Sublist.cons _ (List.Sublist.trans (List.Sublist.trans (List.sublist_append_left Yc5 _) (List.sublist_append_right Yb5 _)) (List.sublist_append_right Ya5 _)))
 have hrg := GotR.reads hG5 hS7 (List.Sublist.cons _ (List.Sublist.trans (List.Sublist.trans (List.Sublist.trans (List.sublist_append_left Yd5 _) (List.sublist_append_right Yc5 _)) (List.sublist_append_right Yb5 _)) (List.sublist_append_right Ya5 _)))
 have hg9 : ∀ x ∈ gl5, x.n ≤ 1000 := fun x hx => by have h1 := hgf5.2 x hx; have h2 := (hrg x hx).hn; omega
 have hcf := hC5.facts
 refine mo0 2 [(3, .go (owns 0 0 3))] [1] (fun γ8 => [(5, .pointer (some ⟨γ8 0, 0, none⟩))]) (fun γ8 L => bx (γ8 0) (#[.slice qa5 na5 ca5, .slice qb5 nb5 cb5, .slice qc5 nc5 cc_5]) 30 :: L) (fun γ8 => on_ (ds_ (sq_ (ao_ (qo0 6 [(1, .go (owns 0 0 1)), (3, .go (owns 0 1 1)), (5, .go (owns 0 2 1))] [1, 5] [(19, .agg #[.slice qa5 na5 ca5]), (21, .slice qb5 nb5 cb5), (23, .slice qc5 nc5 cc_5)] (cP (fun v L' => ∃ q_ n_ c_ Y_ Z_ el_, v = .tuple #[.slice q_ n_ c_, .int .i64 (chkO (ts.take 17) (ws.take 17) (shortG (al.map IntsA.l)))] ∧ L' = List.take 1 ([bx (γ8 0) (#[.slice qa5 na5 ca5, .slice qb5 nb5 cb5, .slice qc5 nc5 cc_5]) 30]) ++ (Y_ ++ (Z_ ++ List.drop 1 ([bx (γ8 0) (#[.slice qa5 na5 ca5, .slice qb5 nb5 cb5, .slice qc5 nc5 cc_5]) 30]))) ∧ SlO 47 Y_ q_ n_ c_ el_ ∧ GotE 3 Z_ el_ ∧ el_.map EnA.val = (if chkO (ts.take 17) (ws.take 17) (shortG (al.map IntsA.l)) = 0 then docV (ts.take 17) (ws.take 17) (shortG (al.map IntsA.l)) else []) ∧ (∀ x ∈ el_, x.U)) Try.call12 (fun w hw => (ents_t qa5 na5 ca5 (ts.take 17) qb5 nb5 cb5 (ws.take 17) qc5 nc5 cc_5 gl5 w (hsa.kept hw.below) hlx5 (by omega) (take_U hU) (hsb.kept hw.below) hly5 (by omega) (fun x hx => hWU x (List.mem_of_mem_take hx)) (hsc.kept hw.below) hlc5 (by omega) (fun x hx => (hrg x (hx)).kept hw.below) hg9).mono fun e w' ⟨q_, n_, c_, Y_, Z_, el_, he, hO, hG, hV, hU, hb, hY⟩ => by rw [hV5] at he hV; exact ⟨_, _, he, ⟨q_, n_, c_, Y_, Z_, el_, rfl, rfl, hO, hG, hV, hU⟩, hs_re (hw.join hb hY 1)⟩) ?_))))))
 rintro v10 L10 ⟨q10, n10, c10, Y10, Yz10, el10, rfl, rfl, hO10, hG10, hV10, hE10⟩
 refine qo0 5 [] [1, 5] [(6, .slice q10 n10 c10), (7, .int .i64 (chkO (ts.take 17) (ws.take 17) (shortG (al.map IntsA.l))))] (on_ (ds_ (sq_ (sq_ (qa0 [(1, .go (owns 0 2 1))] [1, 5, 6, 7] [(8, .int .i64 (nc5 : Nat))] (ds_ (sq_ ?_)))))))
 by_cases q14 : ((nc5 : Nat) : Int) > (0 : Int)
 ·
  refine qa [(1, .yes)] [1, 5, 6, 7, 8] [(31, .bool true)] ([((nc5 : Nat) : Int) > (0 : Int)]) (al1 q14) (ds_ (t_ (sq_ ?_)))
  obtain ⟨kk, hkk, hkl⟩ := rem_ex turn (n := nc5) (by omega)
  refine ao_ (qo 4 [(3, .fit)] [5, 6, 7, 8] [(33, .int .u64 (IntKind.u64.wrap turn)), (35, .int .u64 (nc5 : Nat))] ([Fit .u64 ((nc5 : Nat))]) (al1 (fitU (by omega) (by omega))) (ops_opv (.int .u64 (kk : Nat)) (by kernel_rfl) (by kernel_rfl) (by kernel_rfl) (fun w => run_rem (kd := .u64) (a := IntKind.u64.wrap turn) (b := ((nc5 : Nat) : Int)) ((kk : Nat) : Int) rfl (by kernel_rfl) (by kernel_rfl) (by omega) hkk w) (qo 2 [(5, .fit)] [5, 6, 7, 8] [(9, .int .i64 (kk : Nat))] ([Fit .i64 ((kk : Nat))]) (al1 (fit64 (by omega) (by omega))) (on_ (ds_ (sq_ ?_))))))
  have hct := sv_cut (lo := kk) hsc hlc5 hcf.2.1
  have hctl : nc5 - kk = (gl5.drop kk).length := by rw [List.length_drop]; omega
  refine at_any (by kernel_rfl) ?_
  refine tk (m := 9) [1, 3, 6, 8] [] [5, 6, 7, 8] [(39, .pointer (some ⟨γ8 0, 2, none⟩)), (41, .int .i64 (kk : Nat)), (44, .pointer (some ⟨γ8 0, 2, none⟩)), (46, .int .i64 (kk : Nat))] ([]) #[false, true, false, true, false, false, true, false, true, false, false, false, false] al0 ?_
  refine any_cutX (V := (List Ob) × (List Ob) × (Nat) × (Nat) × (Option Addr) × (Option Addr) × (Nat → Nat)) (fun ⟨Y121, Y221, cap121, cap221, p121, p221, γ21⟩ => SlO 40 Y121 p121 (0 + (nc5 - kk)) cap121 ([] ++ (gl5.drop kk)) ∧ SlO 40 Y221 p221 ((0 + (nc5 - kk)) + kk) cap221 (([] ++ (gl5.drop kk)) ++ (gl5.take kk))) 0 #[true, true, true, true, true, true, true, true, true, true, true, true, true] (fun ⟨Y121, Y221, cap121, cap221, p121, p221, γ21⟩ => [(5, .pointer (some ⟨γ8 0, 0, none⟩)), (6, .slice q10 n10 c10), (7, .int .i64 (chkO (ts.take 17) (ws.take 17) (shortG (al.map IntsA.l)))), (8, .int .i64 (nc5 : Nat))]) (fun ⟨Y121, Y221, cap121, cap221, p121, p221, γ21⟩ => bx (γ8 0) (#[.slice qa5 na5 ca5, .slice qb5 nb5 cb5, .slice p221 ((0 + (nc5 - kk)) + kk) cap221]) 30 :: (Y221 ++ (Y10 ++ (Yz10 ++ [])))) ?_ (fun hmx22 => ?_)
  rotate_left
  ·
   refine any_cutX (V := (List Ob) × (List Ob) × (Nat) × (Nat) × (Option Addr) × (Option Addr) × (Nat → Nat)) (fun ⟨Y121, Y221, cap121, cap221, p121, p221, γ21⟩ => SlO 40 Y121 p121 (0 + (nc5 - kk)) cap121 ([] ++ (gl5.drop kk)) ∧ SlO 40 Y221 p221 ((0 + (nc5 - kk)) + kk) cap221 (([] ++ (gl5.drop kk)) ++ (gl5.take kk))) 1 #[true, true, true, true, true, true, true, true, true, true, true, true, false] (fun ⟨Y121, Y221, cap121, cap221, p121, p221, γ21⟩ => [(5, .pointer (some ⟨γ8 0, 0, none⟩)), (6, .slice q10 n10 c10), (7, .int .i64 (chkO (ts.take 17) (ws.take 17) (shortG (al.map IntsA.l)))), (8, .int .i64 (nc5 : Nat)), (48, .slice p221 ((0 + (nc5 - kk)) + kk) cap221), (49, .pointer (some ⟨γ8 0, 2, none⟩))]) (fun ⟨Y121, Y221, cap121, cap221, p121, p221, γ21⟩ => bx (γ8 0) (#[.slice qa5 na5 ca5, .slice qb5 nb5 cb5, .slice qc5 nc5 cc_5]) 30 :: (Y221 ++ (Y10 ++ (Yz10 ++ [])))) ?_ (fun hmx21 => ?_)
   ·
    rintro ⟨Y121, Y221, cap121, cap221, p121, p221, γ21⟩ ⟨hO121, hO221⟩
    refine a1 12 rfl ?_
    refine mo0 1 [(12, .go (owns 0 2 1))] [5, 6, 7, 8] (fun _ => []) (fun _ L => (L.set 0 (bx (γ8 0) (#[.slice qa5 na5 ca5, .slice qb5 nb5 cb5, .slice p221 ((0 + (nc5 - kk)) + kk) cap221]) 30))) (fun _ => ?_)
    refine od_ ?_
    exact wk (hmx22 (Y121, Y221, cap121, cap221, p121, p221, γ21) ⟨hO121, hO221⟩) [5, 6, 7, 8] [[_], _, _, _] [0, 1, 2, 3] rfl rfl
   refine any_cutX (V := (List Ob) × (Nat) × (Option Addr) × (Nat → Nat)) (fun ⟨Y121, cap121, p121, γ21⟩ => SlO 40 Y121 p121 (0 + (nc5 - kk)) cap121 ([] ++ (gl5.drop kk))) 3 #[true, true, true, true, true, true, true, true, true, true, false, false, false] (fun ⟨Y121, cap121, p121, γ21⟩ => [(5, .pointer (some ⟨γ8 0, 0, none⟩)), (6, .slice q10 n10 c10), (7, .int .i64 (chkO (ts.take 17) (ws.take 17) (shortG (al.map IntsA.l)))), (8, .int .i64 (nc5 : Nat)), (43, .slice p121 (0 + (nc5 - kk)) cap121), (47, .slice qc5 kk cc_5)]) (fun ⟨Y121, cap121, p121, γ21⟩ => bx (γ8 0) (#[.slice qa5 na5 ca5, .slice qb5 nb5 cb5, .slice qc5 nc5 cc_5]) 30 :: (Y121 ++ (Y10 ++ (Yz10 ++ [])))) ?_ (fun hmx20 => ?_)
   ·
    rintro ⟨Y121, cap121, p121, γ21⟩ hO121
    refine a1 10 rfl ?_
    refine ops_append (α := IntsA) [bx (γ8 0) (#[.slice qa5 na5 ca5, .slice qb5 nb5 cb5, .slice qc5 nc5 cc_5]) 30] Y121 (Y10 ++ (Yz10 ++ [])) (.refl _) rfl (by kernel_rfl) (by kernel_rfl) (p := p121) (n := (0 + (nc5 - kk))) (cap := cap121) (m := kk) (yv := .slice qc5 kk cc_5) (by kernel_rfl) (by kernel_rfl) (T := 40) (by_ := 24) (by kernel_rfl) ([] ++ (gl5.drop kk)) (gl5.take kk) hO121 (fun w hw => src_svn Try.underlying28 ((hsc.kept hw.below).take kk) (by rw [List.length_take]; omega)) (by rw [List.length_take]; omega) (by have hmx : maxLen = 9223372036854775807 := rfl; omega) (by have hmx : maxLen = 9223372036854775807 := rfl; omega) (fun Y221 p221 cap221 hO221 => ?_)
    refine od_ ?_
    refine tk (m := 1) [11] [] [5, 6, 7, 8, 48] [(49, .pointer (some ⟨γ8 0, 2, none⟩))] ([]) #[true, true, true, true, true, true, true, true, true, true, true, true, false] al0 ?_
    exact wk (hmx21 (Y121, Y221, cap121, cap221, p121, p221, γ21) ⟨hO121, hO221⟩) [5, 6, 7, 8, 48, 49] [[_], _, _, _] [0, 1, 2, 3] rfl rfl
   refine any_cutX (V := (Nat → Nat)) (fun γ21 => True) 4 #[true, true, true, true, true, false, true, true, true, true, false, false, false] (fun γ21 => [(5, .pointer (some ⟨γ8 0, 0, none⟩)), (6, .slice q10 n10 c10), (7, .int .i64 (chkO (ts.take 17) (ws.take 17) (shortG (al.map IntsA.l)))), (8, .int .i64 (nc5 : Nat)), (38, .slice (some ⟨γ21 0, 0, none⟩) 0 0), (42, .slice (cutP qc5 cc_5 kk 1) (nc5 - kk) (cc_5 - kk)), (47, .slice qc5 kk cc_5)]) (fun γ21 => bx (γ21 0) (#[]) 40 :: bx (γ8 0) (#[.slice qa5 na5 ca5, .slice qb5 nb5 cb5, .slice qc5 nc5 cc_5]) 30 :: (Y10 ++ (Yz10 ++ []))) ?_ (fun hmx19 => ?_)
   ·
    rintro γ21 _
    refine a1 5 rfl ?_
    refine ops_append (α := IntsA) [bx (γ8 0) (#[.slice qa5 na5 ca5, .slice qb5 nb5 cb5, .slice qc5 nc5 cc_5]) 30] ([bx (γ21 0) (#[]) 40]) (Y10 ++ (Yz10 ++ [])) (mvE rfl) rfl (by kernel_rfl) (by kernel_rfl) (p := (some ⟨γ21 0, 0, none⟩)) (n := 0) (cap := 0) (m := (nc5 - kk)) (yv := .slice (cutP qc5 cc_5 kk 1) (nc5 - kk) (cc_5 - kk)) (by kernel_rfl) (by kernel_rfl) (T := 40) (by_ := 24) (by kernel_rfl) ([]) (gl5.drop kk) (SlO.lit (by rfl) (by rfl) (by simp [maxLen])) (fun w hw => src_svn Try.underlying28 (hct.kept hw.below) hctl) hctl (by have hmx : maxLen = 9223372036854775807 := rfl; omega) (by have hmx : maxLen = 9223372036854775807 := rfl; omega) (fun Y121 p121 cap121 hO121 => ?_)
    refine od_ ?_
    exact wk (hmx20 (Y121, cap121, p121, γ21) hO121) [5, 6, 7, 8, 43, 47] [[_], _, _, _] [0, 1, 2, 3] rfl rfl
   refine any_cutX (V := (List Ob) × (Nat) × (Option Addr) × (Nat → Nat)) (fun ⟨Y121, cap121, p121, γ21⟩ => SlO 40 Y121 p121 (0 + (nc5 - kk)) cap121 ([] ++ (gl5.drop kk))) 4 #[true, true, true, true, true, true, true, true, true, false, false, false, false] (fun ⟨Y121, cap121, p121, γ21⟩ => [(5, .pointer (some ⟨γ8 0, 0, none⟩)), (6, .slice q10 n10 c10), (7, .int .i64 (chkO (ts.take 17) (ws.take 17) (shortG (al.map IntsA.l)))), (8, .int .i64 (nc5 : Nat)), (43, .slice p121 (0 + (nc5 - kk)) cap121), (45, .slice qc5 nc5 cc_5), (46, .int .i64 (kk : Nat))]) (fun ⟨Y121, cap121, p121, γ21⟩ => bx (γ8 0) (#[.slice qa5 na5 ca5, .slice qb5 nb5 cb5, .slice qc5 nc5 cc_5]) 30 :: (Y121 ++ (Y10 ++ (Yz10 ++ [])))) ?_ (fun hmx18 => ?_)
   ·
    rintro ⟨Y121, cap121, p121, γ21⟩ hO121
    refine a1 9 rfl ?_
    refine qo 1 [(9, .sl (.slice qc5 kk cc_5))] [5, 6, 7, 8, 43] [(47, .slice qc5 kk cc_5)] ([SlRun Try.prog 28 (.slice qc5 nc5 cc_5) none (some (.int .i64 (kk : Nat))) none (.slice qc5 kk cc_5)]) (al1 (slE_hi (P := Try.prog) (h := kk) (T := 28) (e := 40) (k := 1) (by_ := 24) (by kernel_rfl) (by omega))) ?_
    refine od_ ?_
    exact wk (hmx20 (Y121, cap121, p121, γ21) hO121) [5, 6, 7, 8, 43, 47] [[_], _, _, _] [0, 1, 2, 3] rfl rfl
   refine any_cutX (V := Unit) (fun _ => True) 5 #[false, true, true, true, true, false, true, true, true, true, false, false, false] (fun _ => [(5, .pointer (some ⟨γ8 0, 0, none⟩)), (6, .slice q10 n10 c10), (7, .int .i64 (chkO (ts.take 17) (ws.take 17) (shortG (al.map IntsA.l)))), (8, .int .i64 (nc5 : Nat)), (42, .slice (cutP qc5 cc_5 kk 1) (nc5 - kk) (cc_5 - kk)), (47, .slice qc5 kk cc_5)]) (fun _ => bx (γ8 0) (#[.slice qa5 na5 ca5, .slice qb5 nb5 cb5, .slice qc5 nc5 cc_5]) 30 :: (Y10 ++ (Yz10 ++ []))) ?_ (fun hmx17 => ?_)
   ·
    rintro _ _
    refine a1 0 rfl ?_
    refine mo0 1 [] [5, 6, 7, 8, 42, 47] (fun γ21 => [(38, .slice (some ⟨γ21 0, 0, none⟩) 0 0)]) (fun γ21 L => bx (γ21 0) (#[]) 40 :: L) (fun γ21 => ?_)
    refine od_ ?_
    exact wk (hmx19 γ21 trivial) [5, 6, 7, 8, 38, 42, 47] [[_], [_], _, _] [0, 1, 2, 3] rfl rfl
   refine any_cutX (V := (Nat → Nat)) (fun γ21 => True) 5 #[true, true, true, true, false, false, true, true, true, true, false, false, false] (fun γ21 => [(5, .pointer (some ⟨γ8 0, 0, none⟩)), (6, .slice q10 n10 c10), (7, .int .i64 (chkO (ts.take 17) (ws.take 17) (shortG (al.map IntsA.l)))), (8, .int .i64 (nc5 : Nat)), (38, .slice (some ⟨γ21 0, 0, none⟩) 0 0), (40, .slice qc5 nc5 cc_5), (41, .int .i64 (kk : Nat)), (47, .slice qc5 kk cc_5)]) (fun γ21 => bx (γ21 0) (#[]) 40 :: bx (γ8 0) (#[.slice qa5 na5 ca5, .slice qb5 nb5 cb5, .slice qc5 nc5 cc_5]) 30 :: (Y10 ++ (Yz10 ++ []))) ?_ (fun hmx16 => ?_)
   ·
    rintro γ21 _
    refine a1 4 rfl ?_
    refine qo 1 [(4, .sl (.slice (cutP qc5 cc_5 kk 1) (nc5 - kk) (cc_5 - kk)))] [5, 6, 7, 8, 38, 47] [(42, .slice (cutP qc5 cc_5 kk 1) (nc5 - kk) (cc_5 - kk))] ([SlRun Try.prog 28 (.slice qc5 nc5 cc_5) (some (.int .i64 (kk : Nat))) none none (.slice (cutP qc5 cc_5 kk 1) (nc5 - kk) (cc_5 - kk))]) (al1 (slE_cut (P := Try.prog) (lo := kk) (T := 28) (e := 40) (k := 1) (by_ := 24) (by kernel_rfl) (by omega))) ?_
    refine od_ ?_
    exact wk (hmx19 γ21 trivial) [5, 6, 7, 8, 38, 42, 47] [[_], [_], _, _] [0, 1, 2, 3] rfl rfl
   refine any_cutX (V := (Nat → Nat)) (fun γ21 => True) 5 #[true, true, true, true, true, false, true, true, true, false, false, false, false] (fun γ21 => [(5, .pointer (some ⟨γ8 0, 0, none⟩)), (6, .slice q10 n10 c10), (7, .int .i64 (chkO (ts.take 17) (ws.take 17) (shortG (al.map IntsA.l)))), (8, .int .i64 (nc5 : Nat)), (38, .slice (some ⟨γ21 0, 0, none⟩) 0 0), (42, .slice (cutP qc5 cc_5 kk 1) (nc5 - kk) (cc_5 - kk)), (45, .slice qc5 nc5 cc_5), (46, .int .i64 (kk : Nat))]) (fun γ21 => bx (γ21 0) (#[]) 40 :: bx (γ8 0) (#[.slice qa5 na5 ca5, .slice qb5 nb5 cb5, .slice qc5 nc5 cc_5]) 30 :: (Y10 ++ (Yz10 ++ []))) ?_ (fun hmx15 => ?_)
   ·
    rintro γ21 _
    refine any_fork [5, 9] (by kernel_rfl) (by simp) (each_cons _ rfl ?_ (each_cons _ rfl ?_ (each_nil)))
    ·
     refine ops_append (α := IntsA) [bx (γ8 0) (#[.slice qa5 na5 ca5, .slice qb5 nb5 cb5, .slice qc5 nc5 cc_5]) 30] ([bx (γ21 0) (#[]) 40]) (Y10 ++ (Yz10 ++ [])) (mvE rfl) rfl (by kernel_rfl) (by kernel_rfl) (p := (some ⟨γ21 0, 0, none⟩)) (n := 0) (cap := 0) (m := (nc5 - kk)) (yv := .slice (cutP qc5 cc_5 kk 1) (nc5 - kk) (cc_5 - kk)) (by kernel_rfl) (by kernel_rfl) (T := 40) (by_ := 24) (by kernel_rfl) ([]) (gl5.drop kk) (SlO.lit (by rfl) (by rfl) (by simp [maxLen])) (fun w hw => src_svn Try.underlying28 (hct.kept hw.below) hctl) hctl (by have hmx : maxLen = 9223372036854775807 := rfl; omega) (by have hmx : maxLen = 9223372036854775807 := rfl; omega) (fun Y121 p121 cap121 hO121 => ?_)
     refine od_ ?_
     exact wk (hmx18 (Y121, cap121, p121, γ21) hO121) [5, 6, 7, 8, 43, 45, 46] [[_], _, _, _] [0, 1, 2, 3] rfl rfl
    ·
     refine qo 1 [(9, .sl (.slice qc5 kk cc_5))] [5, 6, 7, 8, 38, 42] [(47, .slice qc5 kk cc_5)] ([SlRun Try.prog 28 (.slice qc5 nc5 cc_5) none (some (.int .i64 (kk : Nat))) none (.slice qc5 kk cc_5)]) (al1 (slE_hi (P := Try.prog) (h := kk) (T := 28) (e := 40) (k := 1) (by_ := 24) (by kernel_rfl) (by omega))) ?_
     refine od_ ?_
     exact wk (hmx19 γ21 trivial) [5, 6, 7, 8, 38, 42, 47] [[_], [_], _, _] [0, 1, 2, 3] rfl rfl
   refine any_cutX (V := (List Ob) × (Nat) × (Option Addr) × (Nat → Nat)) (fun ⟨Y121, cap121, p121, γ21⟩ => SlO 40 Y121 p121 (0 + (nc5 - kk)) cap121 ([] ++ (gl5.drop kk))) 5 #[true, true, true, true, true, true, true, false, true, false, false, false, false] (fun ⟨Y121, cap121, p121, γ21⟩ => [(5, .pointer (some ⟨γ8 0, 0, none⟩)), (6, .slice q10 n10 c10), (7, .int .i64 (chkO (ts.take 17) (ws.take 17) (shortG (al.map IntsA.l)))), (8, .int .i64 (nc5 : Nat)), (43, .slice p121 (0 + (nc5 - kk)) cap121), (44, .pointer (some ⟨γ8 0, 2, none⟩)), (46, .int .i64 (kk : Nat))]) (fun ⟨Y121, cap121, p121, γ21⟩ => bx (γ8 0) (#[.slice qa5 na5 ca5, .slice qb5 nb5 cb5, .slice qc5 nc5 cc_5]) 30 :: (Y121 ++ (Y10 ++ (Yz10 ++ [])))) ?_ (fun hmx14 => ?_)
   ·
    rintro ⟨Y121, cap121, p121, γ21⟩ hO121
    refine a1 7 rfl ?_
    refine qo0 1 [(7, .go (owns 0 2 1))] [5, 6, 7, 8, 43, 46] [(45, .slice qc5 nc5 cc_5)] ?_
    refine od_ ?_
    exact wk (hmx18 (Y121, cap121, p121, γ21) hO121) [5, 6, 7, 8, 43, 45, 46] [[_], _, _, _] [0, 1, 2, 3] rfl rfl
   refine any_cutX (V := Unit) (fun _ => True) 6 #[false, true, true, true, false, false, true, true, true, true, false, false, false] (fun _ => [(5, .pointer (some ⟨γ8 0, 0, none⟩)), (6, .slice q10 n10 c10), (7, .int .i64 (chkO (ts.take 17) (ws.take 17) (shortG (al.map IntsA.l)))), (8, .int .i64 (nc5 : Nat)), (40, .slice qc5 nc5 cc_5), (41, .int .i64 (kk : Nat)), (47, .slice qc5 kk cc_5)]) (fun _ => bx (γ8 0) (#[.slice qa5 na5 ca5, .slice qb5 nb5 cb5, .slice qc5 nc5 cc_5]) 30 :: (Y10 ++ (Yz10 ++ []))) ?_ (fun hmx13 => ?_)
   ·
    rintro _ _
    refine any_fork [0, 4] (by kernel_rfl) (by simp) (each_cons _ rfl ?_ (each_cons _ rfl ?_ (each_nil)))
    ·
     refine mo0 1 [] [5, 6, 7, 8, 40, 41, 47] (fun γ21 => [(38, .slice (some ⟨γ21 0, 0, none⟩) 0 0)]) (fun γ21 L => bx (γ21 0) (#[]) 40 :: L) (fun γ21 => ?_)
     refine od_ ?_
     exact wk (hmx16 γ21 trivial) [5, 6, 7, 8, 38, 40, 41, 47] [[_], [_], _, _] [0, 1, 2, 3] rfl rfl
    ·
     refine qo 1 [(4, .sl (.slice (cutP qc5 cc_5 kk 1) (nc5 - kk) (cc_5 - kk)))] [5, 6, 7, 8, 47] [(42, .slice (cutP qc5 cc_5 kk 1) (nc5 - kk) (cc_5 - kk))] ([SlRun Try.prog 28 (.slice qc5 nc5 cc_5) (some (.int .i64 (kk : Nat))) none none (.slice (cutP qc5 cc_5 kk 1) (nc5 - kk) (cc_5 - kk))]) (al1 (slE_cut (P := Try.prog) (lo := kk) (T := 28) (e := 40) (k := 1) (by_ := 24) (by kernel_rfl) (by omega))) ?_
     refine od_ ?_
     exact wk (hmx17 () trivial) [5, 6, 7, 8, 42, 47] [[_], _, _] [0, 1, 2] rfl rfl
   refine any_cutX (V := Unit) (fun _ => True) 6 #[false, true, true, true, true, false, true, true, true, false, false, false, false] (fun _ => [(5, .pointer (some ⟨γ8 0, 0, none⟩)), (6, .slice q10 n10 c10), (7, .int .i64 (chkO (ts.take 17) (ws.take 17) (shortG (al.map IntsA.l)))), (8, .int .i64 (nc5 : Nat)), (42, .slice (cutP qc5 cc_5 kk 1) (nc5 - kk) (cc_5 - kk)), (45, .slice qc5 nc5 cc_5), (46, .int .i64 (kk : Nat))]) (fun _ => bx (γ8 0) (#[.slice qa5 na5 ca5, .slice qb5 nb5 cb5, .slice qc5 nc5 cc_5]) 30 :: (Y10 ++ (Yz10 ++ []))) ?_ (fun hmx12 => ?_)
   ·
    rintro _ _
    refine any_fork [0, 9] (by kernel_rfl) (by simp) (each_cons _ rfl ?_ (each_cons _ rfl ?_ (each_nil)))
    ·
     refine mo0 1 [] [5, 6, 7, 8, 42, 45, 46] (fun γ21 => [(38, .slice (some ⟨γ21 0, 0, none⟩) 0 0)]) (fun γ21 L => bx (γ21 0) (#[]) 40 :: L) (fun γ21 => ?_)
     refine od_ ?_
     exact wk (hmx15 γ21 trivial) [5, 6, 7, 8, 38, 42, 45, 46] [[_], [_], _, _] [0, 1, 2, 3] rfl rfl
    ·
     refine qo 1 [(9, .sl (.slice qc5 kk cc_5))] [5, 6, 7, 8, 42] [(47, .slice qc5 kk cc_5)] ([SlRun Try.prog 28 (.slice qc5 nc5 cc_5) none (some (.int .i64 (kk : Nat))) none (.slice qc5 kk cc_5)]) (al1 (slE_hi (P := Try.prog) (h := kk) (T := 28) (e := 40) (k := 1) (by_ := 24) (by kernel_rfl) (by omega))) ?_
     refine od_ ?_
     exact wk (hmx17 () trivial) [5, 6, 7, 8, 42, 47] [[_], _, _] [0, 1, 2] rfl rfl
   refine any_cutX (V := (Nat → Nat)) (fun γ21 => True) 6 #[true, true, false, true, false, false, true, true, true, true, false, false, false] (fun γ21 => [(5, .pointer (some ⟨γ8 0, 0, none⟩)), (6, .slice q10 n10 c10), (7, .int .i64 (chkO (ts.take 17) (ws.take 17) (shortG (al.map IntsA.l)))), (8, .int .i64 (nc5 : Nat)), (38, .slice (some ⟨γ21 0, 0, none⟩) 0 0), (39, .pointer (some ⟨γ8 0, 2, none⟩)), (41, .int .i64 (kk : Nat)), (47, .slice qc5 kk cc_5)]) (fun γ21 => bx (γ21 0) (#[]) 40 :: bx (γ8 0) (#[.slice qa5 na5 ca5, .slice qb5 nb5 cb5, .slice qc5 nc5 cc_5]) 30 :: (Y10 ++ (Yz10 ++ []))) ?_ (fun hmx11 => ?_)
   ·
    rintro γ21 _
    refine a1 2 rfl ?_
    refine qo0 1 [(2, .go (owns 1 2 1))] [5, 6, 7, 8, 38, 41, 47] [(40, .slice qc5 nc5 cc_5)] ?_
    refine od_ ?_
    exact wk (hmx16 γ21 trivial) [5, 6, 7, 8, 38, 40, 41, 47] [[_], [_], _, _] [0, 1, 2, 3] rfl rfl
   refine any_cutX (V := (Nat → Nat)) (fun γ21 => True) 6 #[true, true, true, true, false, false, true, true, true, false, false, false, false] (fun γ21 => [(5, .pointer (some ⟨γ8 0, 0, none⟩)), (6, .slice q10 n10 c10), (7, .int .i64 (chkO (ts.take 17) (ws.take 17) (shortG (al.map IntsA.l)))), (8, .int .i64 (nc5 : Nat)), (38, .slice (some ⟨γ21 0, 0, none⟩) 0 0), (40, .slice qc5 nc5 cc_5), (41, .int .i64 (kk : Nat)), (45, .slice qc5 nc5 cc_5), (46, .int .i64 (kk : Nat))]) (fun γ21 => bx (γ21 0) (#[]) 40 :: bx (γ8 0) (#[.slice qa5 na5 ca5, .slice qb5 nb5 cb5, .slice qc5 nc5 cc_5]) 30 :: (Y10 ++ (Yz10 ++ []))) ?_ (fun hmx10 => ?_)
   ·
    rintro γ21 _
    refine any_fork [4, 9] (by kernel_rfl) (by simp) (each_cons _ rfl ?_ (each_cons _ rfl ?_ (each_nil)))
    ·
     refine qo 1 [(4, .sl (.slice (cutP qc5 cc_5 kk 1) (nc5 - kk) (cc_5 - kk)))] [5, 6, 7, 8, 38, 45, 46] [(42, .slice (cutP qc5 cc_5 kk 1) (nc5 - kk) (cc_5 - kk))] ([SlRun Try.prog 28 (.slice qc5 nc5 cc_5) (some (.int .i64 (kk : Nat))) none none (.slice (cutP qc5 cc_5 kk 1) (nc5 - kk) (cc_5 - kk))]) (al1 (slE_cut (P := Try.prog) (lo := kk) (T := 28) (e := 40) (k := 1) (by_ := 24) (by kernel_rfl) (by omega))) ?_
     refine od_ ?_
     exact wk (hmx15 γ21 trivial) [5, 6, 7, 8, 38, 42, 45, 46] [[_], [_], _, _] [0, 1, 2, 3] rfl rfl
    ·
     refine qo 1 [(9, .sl (.slice qc5 kk cc_5))] [5, 6, 7, 8, 38, 40, 41] [(47, .slice qc5 kk cc_5)] ([SlRun Try.prog 28 (.slice qc5 nc5 cc_5) none (some (.int .i64 (kk : Nat))) none (.slice qc5 kk cc_5)]) (al1 (slE_hi (P := Try.prog) (h := kk) (T := 28) (e := 40) (k := 1) (by_ := 24) (by kernel_rfl) (by omega))) ?_
     refine od_ ?_
     exact wk (hmx16 γ21 trivial) [5, 6, 7, 8, 38, 40, 41, 47] [[_], [_], _, _] [0, 1, 2, 3] rfl rfl
   refine any_cutX (V := (Nat → Nat)) (fun γ21 => True) 6 #[true, true, true, true, true, false, true, false, true, false, false, false, false] (fun γ21 => [(5, .pointer (some ⟨γ8 0, 0, none⟩)), (6, .slice q10 n10 c10), (7, .int .i64 (chkO (ts.take 17) (ws.take 17) (shortG (al.map IntsA.l)))), (8, .int .i64 (nc5 : Nat)), (38, .slice (some ⟨γ21 0, 0, none⟩) 0 0), (42, .slice (cutP qc5 cc_5 kk 1) (nc5 - kk) (cc_5 - kk)), (44, .pointer (some ⟨γ8 0, 2, none⟩)), (46, .int .i64 (kk : Nat))]) (fun γ21 => bx (γ21 0) (#[]) 40 :: bx (γ8 0) (#[.slice qa5 na5 ca5, .slice qb5 nb5 cb5, .slice qc5 nc5 cc_5]) 30 :: (Y10 ++ (Yz10 ++ []))) ?_ (fun hmx9 => ?_)
   ·
    rintro γ21 _
    refine any_fork [5, 7] (by kernel_rfl) (by simp) (each_cons _ rfl ?_ (each_cons _ rfl ?_ (each_nil)))
    ·
     refine ops_append (α := IntsA) [bx (γ8 0) (#[.slice qa5 na5 ca5, .slice qb5 nb5 cb5, .slice qc5 nc5 cc_5]) 30] ([bx (γ21 0) (#[]) 40]) (Y10 ++ (Yz10 ++ [])) (mvE rfl) rfl (by kernel_rfl) (by kernel_rfl) (p := (some ⟨γ21 0, 0, none⟩)) (n := 0) (cap := 0) (m := (nc5 - kk)) (yv := .slice (cutP qc5 cc_5 kk 1) (nc5 - kk) (cc_5 - kk)) (by kernel_rfl) (by kernel_rfl) (T := 40) (by_ := 24) (by kernel_rfl) ([]) (gl5.drop kk) (SlO.lit (by rfl) (by rfl) (by simp [maxLen])) (fun w hw => src_svn Try.underlying28 (hct.kept hw.below) hctl) hctl (by have hmx : maxLen = 9223372036854775807 := rfl; omega) (by have hmx : maxLen = 9223372036854775807 := rfl; omega) (fun Y121 p121 cap121 hO121 => ?_)
     refine od_ ?_
     exact wk (hmx14 (Y121, cap121, p121, γ21) hO121) [5, 6, 7, 8, 43, 44, 46] [[_], _, _, _] [0, 1, 2, 3] rfl rfl
    ·
     refine qo0 1 [(7, .go (owns 1 2 1))] [5, 6, 7, 8, 38, 42, 46] [(45, .slice qc5 nc5 cc_5)] ?_
     refine od_ ?_
     exact wk (hmx15 γ21 trivial) [5, 6, 7, 8, 38, 42, 45, 46] [[_], [_], _, _] [0, 1, 2, 3] rfl rfl
   refine any_cutX (V := Unit) (fun _ => True) 7 #[false, true, false, true, false, false, true, true, true, true, false, false, false] (fun _ => [(5, .pointer (some ⟨γ8 0, 0, none⟩)), (6, .slice q10 n10 c10), (7, .int .i64 (chkO (ts.take 17) (ws.take 17) (shortG (al.map IntsA.l)))), (8, .int .i64 (nc5 : Nat)), (39, .pointer (some ⟨γ8 0, 2, none⟩)), (41, .int .i64 (kk : Nat)), (47, .slice qc5 kk cc_5)]) (fun _ => bx (γ8 0) (#[.slice qa5 na5 ca5, .slice qb5 nb5 cb5, .slice qc5 nc5 cc_5]) 30 :: (Y10 ++ (Yz10 ++ []))) ?_ (fun hmx8 => ?_)
   ·
    rintro _ _
    refine any_fork [0, 2] (by kernel_rfl) (by simp) (each_cons _ rfl ?_ (each_cons _ rfl ?_ (each_nil)))
    ·
     refine mo0 1 [] [5, 6, 7, 8, 39, 41, 47] (fun γ21 => [(38, .slice (some ⟨γ21 0, 0, none⟩) 0 0)]) (fun γ21 L => bx (γ21 0) (#[]) 40 :: L) (fun γ21 => ?_)
     refine od_ ?_
     exact wk (hmx11 γ21 trivial) [5, 6, 7, 8, 38, 39, 41, 47] [[_], [_], _, _] [0, 1, 2, 3] rfl rfl
    ·
     refine qo0 1 [(2, .go (owns 0 2 1))] [5, 6, 7, 8, 41, 47] [(40, .slice qc5 nc5 cc_5)] ?_
     refine od_ ?_
     exact wk (hmx13 () trivial) [5, 6, 7, 8, 40, 41, 47] [[_], _, _] [0, 1, 2] rfl rfl
   refine any_cutX (V := Unit) (fun _ => True) 7 #[false, true, true, true, false, false, true, true, true, false, false, false, false] (fun _ => [(5, .pointer (some ⟨γ8 0, 0, none⟩)), (6, .slice q10 n10 c10), (7, .int .i64 (chkO (ts.take 17) (ws.take 17) (shortG (al.map IntsA.l)))), (8, .int .i64 (nc5 : Nat)), (40, .slice qc5 nc5 cc_5), (41, .int .i64 (kk : Nat)), (45, .slice qc5 nc5 cc_5), (46, .int .i64 (kk : Nat))]) (fun _ => bx (γ8 0) (#[.slice qa5 na5 ca5, .slice qb5 nb5 cb5, .slice qc5 nc5 cc_5]) 30 :: (Y10 ++ (Yz10 ++ []))) ?_ (fun hmx7 => ?_)
   ·
    rintro _ _
    refine any_fork [0, 4, 9] (by kernel_rfl) (by simp) (each_cons _ rfl ?_ (each_cons _ rfl ?_ (each_cons _ rfl ?_ (each_nil))))
    ·
     refine mo0 1 [] [5, 6, 7, 8, 40, 41, 45, 46] (fun γ21 => [(38, .slice (some ⟨γ21 0, 0, none⟩) 0 0)]) (fun γ21 L => bx (γ21 0) (#[]) 40 :: L) (fun γ21 => ?_)
     refine od_ ?_
     exact wk (hmx10 γ21 trivial) [5, 6, 7, 8, 38, 40, 41, 45, 46] [[_], [_], _, _] [0, 1, 2, 3] rfl rfl
    ·
     refine qo 1 [(4, .sl (.slice (cutP qc5 cc_5 kk 1) (nc5 - kk) (cc_5 - kk)))] [5, 6, 7, 8, 45, 46] [(42, .slice (cutP qc5 cc_5 kk 1) (nc5 - kk) (cc_5 - kk))] ([SlRun Try.prog 28 (.slice qc5 nc5 cc_5) (some (.int .i64 (kk : Nat))) none none (.slice (cutP qc5 cc_5 kk 1) (nc5 - kk) (cc_5 - kk))]) (al1 (slE_cut (P := Try.prog) (lo := kk) (T := 28) (e := 40) (k := 1) (by_ := 24) (by kernel_rfl) (by omega))) ?_
     refine od_ ?_
     exact wk (hmx12 () trivial) [5, 6, 7, 8, 42, 45, 46] [[_], _, _] [0, 1, 2] rfl rfl
    ·
     refine qo 1 [(9, .sl (.slice qc5 kk cc_5))] [5, 6, 7, 8, 40, 41] [(47, .slice qc5 kk cc_5)] ([SlRun Try.prog 28 (.slice qc5 nc5 cc_5) none (some (.int .i64 (kk : Nat))) none (.slice qc5 kk cc_5)]) (al1 (slE_hi (P := Try.prog) (h := kk) (T := 28) (e := 40) (k := 1) (by_ := 24) (by kernel_rfl) (by omega))) ?_
     refine od_ ?_
     exact wk (hmx13 () trivial) [5, 6, 7, 8, 40, 41, 47] [[_], _, _] [0, 1, 2] rfl rfl
   refine any_cutX (V := Unit) (fun _ => True) 7 #[false, true, true, true, true, false, true, false, true, false, false, false, false] (fun _ => [(5, .pointer (some ⟨γ8 0, 0, none⟩)), (6, .slice q10 n10 c10), (7, .int .i64 (chkO (ts.take 17) (ws.take 17) (shortG (al.map IntsA.l)))), (8, .int .i64 (nc5 : Nat)), (42, .slice (cutP qc5 cc_5 kk 1) (nc5 - kk) (cc_5 - kk)), (44, .pointer (some ⟨γ8 0, 2, none⟩)), (46, .int .i64 (kk : Nat))]) (fun _ => bx (γ8 0) (#[.slice qa5 na5 ca5, .slice qb5 nb5 cb5, .slice qc5 nc5 cc_5]) 30 :: (Y10 ++ (Yz10 ++ []))) ?_ (fun hmx6 => ?_)
   ·
    rintro _ _
    refine any_fork [0, 7] (by kernel_rfl) (by simp) (each_cons _ rfl ?_ (each_cons _ rfl ?_ (each_nil)))
    ·
     refine mo0 1 [] [5, 6, 7, 8, 42, 44, 46] (fun γ21 => [(38, .slice (some ⟨γ21 0, 0, none⟩) 0 0)]) (fun γ21 L => bx (γ21 0) (#[]) 40 :: L) (fun γ21 => ?_)
     refine od_ ?_
     exact wk (hmx9 γ21 trivial) [5, 6, 7, 8, 38, 42, 44, 46] [[_], [_], _, _] [0, 1, 2, 3] rfl rfl
    ·
     refine qo0 1 [(7, .go (owns 0 2 1))] [5, 6, 7, 8, 42, 46] [(45, .slice qc5 nc5 cc_5)] ?_
     refine od_ ?_
     exact wk (hmx12 () trivial) [5, 6, 7, 8, 42, 45, 46] [[_], _, _] [0, 1, 2] rfl rfl
   refine any_cutX (V := (Nat → Nat)) (fun γ21 => True) 7 #[true, true, false, true, false, false, true, true, true, false, false, false, false] (fun γ21 => [(5, .pointer (some ⟨γ8 0, 0, none⟩)), (6, .slice q10 n10 c10), (7, .int .i64 (chkO (ts.take 17) (ws.take 17) (shortG (al.map IntsA.l)))), (8, .int .i64 (nc5 : Nat)), (38, .slice (some ⟨γ21 0, 0, none⟩) 0 0), (39, .pointer (some ⟨γ8 0, 2, none⟩)), (41, .int .i64 (kk : Nat)), (45, .slice qc5 nc5 cc_5), (46, .int .i64 (kk : Nat))]) (fun γ21 => bx (γ21 0) (#[]) 40 :: bx (γ8 0) (#[.slice qa5 na5 ca5, .slice qb5 nb5 cb5, .slice qc5 nc5 cc_5]) 30 :: (Y10 ++ (Yz10 ++ []))) ?_ (fun hmx5 => ?_)
   ·
    rintro γ21 _
    refine any_fork [2, 9] (by kernel_rfl) (by simp) (each_cons _ rfl ?_ (each_cons _ rfl ?_ (each_nil)))
    ·
     refine qo0 1 [(2, .go (owns 1 2 1))] [5, 6, 7, 8, 38, 41, 45, 46] [(40, .slice qc5 nc5 cc_5)] ?_
     refine od_ ?_
     exact wk (hmx10 γ21 trivial) [5, 6, 7, 8, 38, 40, 41, 45, 46] [[_], [_], _, _] [0, 1, 2, 3] rfl rfl
    ·
     refine qo 1 [(9, .sl (.slice qc5 kk cc_5))] [5, 6, 7, 8, 38, 39, 41] [(47, .slice qc5 kk cc_5)] ([SlRun Try.prog 28 (.slice qc5 nc5 cc_5) none (some (.int .i64 (kk : Nat))) none (.slice qc5 kk cc_5)]) (al1 (slE_hi (P := Try.prog) (h := kk) (T := 28) (e := 40) (k := 1) (by_ := 24) (by kernel_rfl) (by omega))) ?_
     refine od_ ?_
     exact wk (hmx11 γ21 trivial) [5, 6, 7, 8, 38, 39, 41, 47] [[_], [_], _, _] [0, 1, 2, 3] rfl rfl
   refine any_cutX (V := (Nat → Nat)) (fun γ21 => True) 7 #[true, true, true, true, false, false, true, false, true, false, false, false, false] (fun γ21 => [(5, .pointer (some ⟨γ8 0, 0, none⟩)), (6, .slice q10 n10 c10), (7, .int .i64 (chkO (ts.take 17) (ws.take 17) (shortG (al.map IntsA.l)))), (8, .int .i64 (nc5 : Nat)), (38, .slice (some ⟨γ21 0, 0, none⟩) 0 0), (40, .slice qc5 nc5 cc_5), (41, .int .i64 (kk : Nat)), (44, .pointer (some ⟨γ8 0, 2, none⟩)), (46, .int .i64 (kk : Nat))]) (fun γ21 => bx (γ21 0) (#[]) 40 :: bx (γ8 0) (#[.slice qa5 na5 ca5, .slice qb5 nb5 cb5, .slice qc5 nc5 cc_5]) 30 :: (Y10 ++ (Yz10 ++ []))) ?_ (fun hmx4 => ?_)
   ·
    rintro γ21 _
    refine any_fork [4, 7] (by kernel_rfl) (by simp) (each_cons _ rfl ?_ (each_cons _ rfl ?_ (each_nil)))
    ·
     refine qo 1 [(4, .sl (.slice (cutP qc5 cc_5 kk 1) (nc5 - kk) (cc_5 - kk)))] [5, 6, 7, 8, 38, 44, 46] [(42, .slice (cutP qc5 cc_5 kk 1) (nc5 - kk) (cc_5 - kk))] ([SlRun Try.prog 28 (.slice qc5 nc5 cc_5) (some (.int .i64 (kk : Nat))) none none (.slice (cutP qc5 cc_5 kk 1) (nc5 - kk) (cc_5 - kk))]) (al1 (slE_cut (P := Try.prog) (lo := kk) (T := 28) (e := 40) (k := 1) (by_ := 24) (by kernel_rfl) (by omega))) ?_
     refine od_ ?_
     exact wk (hmx9 γ21 trivial) [5, 6, 7, 8, 38, 42, 44, 46] [[_], [_], _, _] [0, 1, 2, 3] rfl rfl
    ·
     refine qo0 1 [(7, .go (owns 1 2 1))] [5, 6, 7, 8, 38, 40, 41, 46] [(45, .slice qc5 nc5 cc_5)] ?_
     refine od_ ?_
     exact wk (hmx10 γ21 trivial) [5, 6, 7, 8, 38, 40, 41, 45, 46] [[_], [_], _, _] [0, 1, 2, 3] rfl rfl
   refine any_cutX (V := Unit) (fun _ => True) 8 #[false, true, false, true, false, false, true, true, true, false, false, false, false] (fun _ => [(5, .pointer (some ⟨γ8 0, 0, none⟩)), (6, .slice q10 n10 c10), (7, .int .i64 (chkO (ts.take 17) (ws.take 17) (shortG (al.map IntsA.l)))), (8, .int .i64 (nc5 : Nat)), (39, .pointer (some ⟨γ8 0, 2, none⟩)), (41, .int .i64 (kk : Nat)), (45, .slice qc5 nc5 cc_5), (46, .int .i64 (kk : Nat))]) (fun _ => bx (γ8 0) (#[.slice qa5 na5 ca5, .slice qb5 nb5 cb5, .slice qc5 nc5 cc_5]) 30 :: (Y10 ++ (Yz10 ++ []))) ?_ (fun hmx3 => ?_)
   ·
    rintro _ _
    refine any_fork [0, 2, 9] (by kernel_rfl) (by simp) (each_cons _ rfl ?_ (each_cons _ rfl ?_ (each_cons _ rfl ?_ (each_nil))))
    ·
     refine mo0 1 [] [5, 6, 7, 8, 39, 41, 45, 46] (fun γ21 => [(38, .slice (some ⟨γ21 0, 0, none⟩) 0 0)]) (fun γ21 L => bx (γ21 0) (#[]) 40 :: L) (fun γ21 => ?_)
     refine od_ ?_
     exact wk (hmx5 γ21 trivial) [5, 6, 7, 8, 38, 39, 41, 45, 46] [[_], [_], _, _] [0, 1, 2, 3] rfl rfl
    ·
     refine qo0 1 [(2, .go (owns 0 2 1))] [5, 6, 7, 8, 41, 45, 46] [(40, .slice qc5 nc5 cc_5)] ?_
     refine od_ ?_
     exact wk (hmx7 () trivial) [5, 6, 7, 8, 40, 41, 45, 46] [[_], _, _] [0, 1, 2] rfl rfl
    ·
     refine qo 1 [(9, .sl (.slice qc5 kk cc_5))] [5, 6, 7, 8, 39, 41] [(47, .slice qc5 kk cc_5)] ([SlRun Try.prog 28 (.slice qc5 nc5 cc_5) none (some (.int .i64 (kk : Nat))) none (.slice qc5 kk cc_5)]) (al1 (slE_hi (P := Try.prog) (h := kk) (T := 28) (e := 40) (k := 1) (by_ := 24) (by kernel_rfl) (by omega))) ?_
     refine od_ ?_
     exact wk (hmx8 () trivial) [5, 6, 7, 8, 39, 41, 47] [[_], _, _] [0, 1, 2] rfl rfl
   refine any_cutX (V := Unit) (fun _ => True) 8 #[false, true, true, true, false, false, true, false, true, false, false, false, false] (fun _ => [(5, .pointer (some ⟨γ8 0, 0, none⟩)), (6, .slice q10 n10 c10), (7, .int .i64 (chkO (ts.take 17) (ws.take 17) (shortG (al.map IntsA.l)))), (8, .int .i64 (nc5 : Nat)), (40, .slice qc5 nc5 cc_5), (41, .int .i64 (kk : Nat)), (44, .pointer (some ⟨γ8 0, 2, none⟩)), (46, .int .i64 (kk : Nat))]) (fun _ => bx (γ8 0) (#[.slice qa5 na5 ca5, .slice qb5 nb5 cb5, .slice qc5 nc5 cc_5]) 30 :: (Y10 ++ (Yz10 ++ []))) ?_ (fun hmx2 => ?_)
   ·
    rintro _ _
    refine any_fork [0, 4, 7] (by kernel_rfl) (by simp) (each_cons _ rfl ?_ (each_cons _ rfl ?_ (each_cons _ rfl ?_ (each_nil))))
    ·
     refine mo0 1 [] [5, 6, 7, 8, 40, 41, 44, 46] (fun γ21 => [(38, .slice (some ⟨γ21 0, 0, none⟩) 0 0)]) (fun γ21 L => bx (γ21 0) (#[]) 40 :: L) (fun γ21 => ?_)
     refine od_ ?_
     exact wk (hmx4 γ21 trivial) [5, 6, 7, 8, 38, 40, 41, 44, 46] [[_], [_], _, _] [0, 1, 2, 3] rfl rfl
    ·
     refine qo 1 [(4, .sl (.slice (cutP qc5 cc_5 kk 1) (nc5 - kk) (cc_5 - kk)))] [5, 6, 7, 8, 44, 46] [(42, .slice (cutP qc5 cc_5 kk 1) (nc5 - kk) (cc_5 - kk))] ([SlRun Try.prog 28 (.slice qc5 nc5 cc_5) (some (.int .i64 (kk : Nat))) none none (.slice (cutP qc5 cc_5 kk 1) (nc5 - kk) (cc_5 - kk))]) (al1 (slE_cut (P := Try.prog) (lo := kk) (T := 28) (e := 40) (k := 1) (by_ := 24) (by kernel_rfl) (by omega))) ?_
     refine od_ ?_
     exact wk (hmx6 () trivial) [5, 6, 7, 8, 42, 44, 46] [[_], _, _] [0, 1, 2] rfl rfl
    ·
     refine qo0 1 [(7, .go (owns 0 2 1))] [5, 6, 7, 8, 40, 41, 46] [(45, .slice qc5 nc5 cc_5)] ?_
     refine od_ ?_
     exact wk (hmx7 () trivial) [5, 6, 7, 8, 40, 41, 45, 46] [[_], _, _] [0, 1, 2] rfl rfl
   refine any_cutX (V := (Nat → Nat)) (fun γ21 => True) 8 #[true, true, false, true, false, false, true, false, true, false, false, false, false] (fun γ21 => [(5, .pointer (some ⟨γ8 0, 0, none⟩)), (6, .slice q10 n10 c10), (7, .int .i64 (chkO (ts.take 17) (ws.take 17) (shortG (al.map IntsA.l)))), (8, .int .i64 (nc5 : Nat)), (38, .slice (some ⟨γ21 0, 0, none⟩) 0 0), (39, .pointer (some ⟨γ8 0, 2, none⟩)), (41, .int .i64 (kk : Nat)), (44, .pointer (some ⟨γ8 0, 2, none⟩)), (46, .int .i64 (kk : Nat))]) (fun γ21 => bx (γ21 0) (#[]) 40 :: bx (γ8 0) (#[.slice qa5 na5 ca5, .slice qb5 nb5 cb5, .slice qc5 nc5 cc_5]) 30 :: (Y10 ++ (Yz10 ++ []))) ?_ (fun hmx1 => ?_)
   ·
    rintro γ21 _
    refine any_fork [2, 7] (by kernel_rfl) (by simp) (each_cons _ rfl ?_ (each_cons _ rfl ?_ (each_nil)))
    ·
     refine qo0 1 [(2, .go (owns 1 2 1))] [5, 6, 7, 8, 38, 41, 44, 46] [(40, .slice qc5 nc5 cc_5)] ?_
     refine od_ ?_
     exact wk (hmx4 γ21 trivial) [5, 6, 7, 8, 38, 40, 41, 44, 46] [[_], [_], _, _] [0, 1, 2, 3] rfl rfl
    ·
     refine qo0 1 [(7, .go (owns 1 2 1))] [5, 6, 7, 8, 38, 39, 41, 46] [(45, .slice qc5 nc5 cc_5)] ?_
     refine od_ ?_
     exact wk (hmx5 γ21 trivial) [5, 6, 7, 8, 38, 39, 41, 45, 46] [[_], [_], _, _] [0, 1, 2, 3] rfl rfl
   refine any_fork [0, 2, 7] (by kernel_rfl) (by simp) (each_cons _ rfl ?_ (each_cons _ rfl ?_ (each_cons _ rfl ?_ (each_nil))))
   ·
    refine mo0 1 [] [5, 6, 7, 8, 39, 41, 44, 46] (fun γ21 => [(38, .slice (some ⟨γ21 0, 0, none⟩) 0 0)]) (fun γ21 L => bx (γ21 0) (#[]) 40 :: L) (fun γ21 => ?_)
    refine od_ ?_
    exact wk (hmx1 γ21 trivial) [5, 6, 7, 8, 38, 39, 41, 44, 46] [[_], [_], _, _] [0, 1, 2, 3] rfl rfl
   ·
    refine qo0 1 [(2, .go (owns 0 2 1))] [5, 6, 7, 8, 41, 44, 46] [(40, .slice qc5 nc5 cc_5)] ?_
    refine od_ ?_
    exact wk (hmx2 () trivial) [5, 6, 7, 8, 40, 41, 44, 46] [[_], _, _] [0, 1, 2] rfl rfl
   ·
    refine qo0 1 [(7, .go (owns 0 2 1))] [5, 6, 7, 8, 39, 41, 46] [(45, .slice qc5 nc5 cc_5)] ?_
    refine od_ ?_
    exact wk (hmx3 () trivial) [5, 6, 7, 8, 39, 41, 45, 46] [[_], _, _] [0, 1, 2] rfl rfl
  rintro ⟨Y121, Y221, cap121, cap221, p121, p221, γ21⟩ ⟨hO121, hO221⟩
  refine any_nil (by kernel_rfl) ?_
  refine ds_ ?_
  have hln322 := hO221.len
  obtain ⟨g322, cs322, rfl, rfl, hOw322⟩ := hO221.rowOf (i := 0) (by omega)
  refine ao_ (qo0 3 [(1, .go (owns 0 2 1))] [5, 6, 7] [(51, .slice (some ⟨g322, 0, none⟩) ((0 + (nc5 - kk)) + kk) cap221), (52, .int .i64 (nc5 : Nat))] (ops_opv (.int .i64 (nc5 / 2 : Nat)) (by kernel_rfl) (by kernel_rfl) (by kernel_rfl) (fun w => run_quo (kd := .i64) (a := ((nc5 : Nat) : Int)) (b := 2) ((nc5 / 2 : Nat) : Int) rfl (by kernel_rfl) (by kernel_rfl) (by decide) (quo2 (by omega)) w) (qo 1 [(4, .sl (.slice (some ⟨g322, 0, none⟩) (nc5 / 2) cap221))] [5, 6, 7] [(54, .slice (some ⟨g322, 0, none⟩) (nc5 / 2) cap221)] ([SlRun Try.prog 28 (.slice (some ⟨g322, 0, none⟩) ((0 + (nc5 - kk)) + kk) cap221) none (some (.int .i64 (nc5 / 2 : Nat))) none (.slice (some ⟨g322, 0, none⟩) (nc5 / 2) cap221)]) (al1 (slE_hi (P := Try.prog) (h := nc5 / 2) (T := 28) (e := 40) (k := 1) (by_ := 24) (by kernel_rfl) (by have := hOw322.le; omega))) (Ops.pick [[bx (γ8 0) (#[.slice qa5 na5 ca5, .slice qb5 nb5 cb5, .slice (some ⟨g322, 0, none⟩) ((0 + (nc5 - kk)) + kk) cap221]) 30], [bx g322 cs322 40], Y10, Yz10] [1, 0, 2, 3] [] (bx g322 cs322 40 :: bx (γ8 0) (#[.slice qa5 na5 ca5, .slice qb5 nb5 cb5, .slice (some ⟨g322, 0, none⟩) ((0 + (nc5 - kk)) + kk) cap221]) 30 :: (Y10 ++ (Yz10 ++ []))) (by kernel_rfl) rfl rfl (cP (fun v L' => ∃ (m_ : List IntsA) (c_ : Array Value), v = .tuple #[] ∧ L' = bx g322 c_ 40 :: bx (γ8 0) (#[.slice qa5 na5 ca5, .slice qb5 nb5 cb5, .slice (some ⟨g322, 0, none⟩) ((0 + (nc5 - kk)) + kk) cap221]) 30 :: (Y10 ++ (Yz10 ++ [])) ∧ m_.Perm (([] ++ (gl5.drop kk)) ++ (gl5.take kk)) ∧ OwnS (Enc.k IntsA) (m_.flatMap Enc.enc) ((0 + (nc5 - kk)) + kk) cap221 c_) Try.call22 (fun w hw => (reverse_own _ _ g322 cs322 ((0 + (nc5 - kk)) + kk) (nc5 / 2) cap221 (([] ++ (gl5.drop kk)) ++ (gl5.take kk)) w hw hO221.len (by omega) (by omega) hOw322).mono fun e w' ⟨he, m_, c_, hp, ho, hh⟩ => ⟨_, _, he, ⟨m_, c_, rfl, rfl, hp, ho⟩, hh⟩) ?_)))))
  rintro v325 L325 ⟨mm325, cm325, rfl, rfl, hp325, ho325⟩
  have hmp := hp325.trans turn_perm
  have hpm : (mm325.map IntsA.l).Perm (shortG (al.map IntsA.l)) := by rw [← hV5]; exact hmp.map _
  have hmo : (0 + (nc5 - kk)) + kk = mm325.length := by rw [hp325.length_eq]; exact hO221.len
  refine on_ (ds_ (sq_ (ao_ (qo0 6 [(1, .go (owns 1 0 1)), (3, .go (owns 1 1 1)), (5, .go (owns 1 2 1))] [6, 7] [(58, .agg #[.slice qa5 na5 ca5]), (60, .slice qb5 nb5 cb5), (62, .slice (some ⟨g322, 0, none⟩) ((0 + (nc5 - kk)) + kk) cap221)] (cP (fun v L' => ∃ q_ n_ c_ Y_ Z_ el_, v = .tuple #[.slice q_ n_ c_, .int .i64 (chkO (ts.take 17) (ws.take 17) (shortG (al.map IntsA.l)))] ∧ L' = List.take 2 (bx g322 cm325 40 :: bx (γ8 0) (#[.slice qa5 na5 ca5, .slice qb5 nb5 cb5, .slice (some ⟨g322, 0, none⟩) ((0 + (nc5 - kk)) + kk) cap221]) 30 :: (Y10 ++ (Yz10 ++ []))) ++ (Y_ ++ (Z_ ++ List.drop 2 (bx g322 cm325 40 :: bx (γ8 0) (#[.slice qa5 na5 ca5, .slice qb5 nb5 cb5, .slice (some ⟨g322, 0, none⟩) ((0 + (nc5 - kk)) + kk) cap221]) 30 :: (Y10 ++ (Yz10 ++ []))))) ∧ SlO 47 Y_ q_ n_ c_ el_ ∧ GotE 3 Z_ el_ ∧ el_.map EnA.val = (if chkO (ts.take 17) (ws.take 17) (shortG (al.map IntsA.l)) = 0 then docV (ts.take 17) (ws.take 17) (shortG (al.map IntsA.l)) else []) ∧ (∀ x ∈ el_, x.U)) Try.call12 (fun w hw => (ents_t qa5 na5 ca5 (ts.take 17) qb5 nb5 cb5 (ws.take 17) (some ⟨g322, 0, none⟩) ((0 + (nc5 - kk)) + kk) cap221 mm325 w (hsa.kept hw.below) hlx5 (by omega) (take_U hU) (hsb.kept hw.below) hly5 (by omega) (fun x hx => hWU x (List.mem_of_mem_take hx)) ((SlO.ofOwn ho325 hmo).atN (A := []) hw) hmo (by omega) (fun x hx => (hrg x (hmp.mem_iff.1 hx)).kept hw.below) (fun x hx => hg9 x (hmp.mem_iff.1 hx))).mono fun e w' ⟨q_, n_, c_, Y_, Z_, el_, he, hO, hG, hV, hU, hb, hY⟩ => by rw [chk_turn hpm] at he; rw [ents_turn hpm] at hV; exact ⟨_, _, he, ⟨q_, n_, c_, Y_, Z_, el_, rfl, rfl, hO, hG, hV, hU⟩, hs_re (hw.join hb hY 2)⟩) ?_)))))
  rintro v328 L328 ⟨q328, n328, c328, Y328, Yz328, el328, rfl, rfl, hO328, hG328, hV328, hE328⟩
  refine qo0 5 [] [6, 7] [(10, .slice q328 n328 c328), (11, .int .i64 (chkO (ts.take 17) (ws.take 17) (shortG (al.map IntsA.l))))] (on_ (ds_ (sq_ (sq_ ?_))))
  have hq10 := hO10.len
  have hq328 := hO328.len
  have hqq : el10.length = el328.length := by have := congrArg List.length (hV10.trans hV328.symm); rwa [List.length_map, List.length_map] at this
  have hqk : el10.length ≤ 1000 := by have := congrArg List.length hV10; rw [List.length_map] at this; rw [this]; exact ents_len
  refine qa [(2, .no), (8, .no)] [6, 10] [(75, .bool false)] ([¬ (((chkO (ts.take 17) (ws.take 17) (shortG (al.map IntsA.l))) : Int) ≠ ((chkO (ts.take 17) (ws.take 17) (shortG (al.map IntsA.l))) : Int))] ++ ([¬ (((n10 : Nat) : Int) ≠ ((n328 : Nat) : Int))])) (alA (al1 (fun h => h rfl)) (al1 (by omega))) (ds_ (f_ (at_skip (ds_ (sq_ (sq_ (at_rebase fun wR331 hS331 => ?_)))))))
  have hs10 := hO10.sub hS331 (List.Sublist.cons _ (List.Sublist.cons _ (List.Sublist.trans (List.Sublist.trans (List.sublist_append_left Y10 _) (List.sublist_append_right Yz328 _)) (List.sublist_append_right Y328 _))))
  have hnn10 := hO10.len
  have hrd10 := GotE.reads hG10 hE10 hS331 (List.Sublist.cons _ (List.Sublist.cons _ (List.Sublist.trans (List.Sublist.trans (List.Sublist.trans (List.sublist_append_left Yz10 _) (List.sublist_append_right Y10 _)) (List.sublist_append_right Yz328 _)) (List.sublist_append_right Y328 _))))
  have hs328 := hO328.sub hS331 (List.Sublist.cons _ (List.Sublist.cons _ (List.sublist_append_left Y328 _)))
  have hnn328 := hO328.len
  have hrd328 := GotE.reads hG328 hE328 hS331 (List.Sublist.cons _ (List.Sublist.cons _ (List.Sublist.trans (List.sublist_append_left Yz328 _) (List.sublist_append_right Y328 _))))
  have hg10 : ∀ x ∈ el10, rightE x.val = true ∧ x.n ≤ 1000 := fun x hx => by
   have h1 : x.val ∈ el10.map EnA.val := List.mem_map_of_mem hx
   rw [hV10] at h1
   have h2 := ents_small h1
   have h3 := (hrd10 x hx).hn
   have h4 : x.l.length ≤ 1000 := h2
   exact ⟨ents_right h1, by omega⟩
  have hg328 : ∀ x ∈ el328, rightE x.val = true ∧ x.n ≤ 1000 := fun x hx => by
   have h1 : x.val ∈ el328.map EnA.val := List.mem_map_of_mem hx
   rw [hV328] at h1
   have h2 := ents_small h1
   have h3 := (hrd328 x hx).hn
   have h4 : x.l.length ≤ 1000 := h2
   exact ⟨ents_right h1, by omega⟩
  refine qa0 [] [6, 10] [(77, .int .i64 (n10 : Nat)), (78, .int .i64 0)] (ds_ (at_block (at_loop (α := Nat) [6, 10, 77, 78] (fun i => [(6, .slice q10 n10 c10), (10, .slice q328 n328 c328), (77, .int .i64 (n10 : Nat)), (78, .int .i64 (i : Nat))]) (fun i => []) (fun i => i ≤ n10) (fun i => n10 - i) 0 (by kernel_rfl) rfl (Nat.zero_le _) ?_)))
  rintro i
  intro hi
  refine sq_ ?_
  by_cases q334 : ((i : Nat) : Int) < ((n10 : Nat) : Int)
  ·
   refine qa [(0, .yes)] [6, 10, 77, 78] [(79, .bool true)] ([((i : Nat) : Int) < ((n10 : Nat) : Int)]) (al1 q334) (ds_ (sq_ (t_ (at_skip (ds_ (sq_ (at_block (sq_ (qa0 [] [6, 10, 77, 78] [(12, .int .i64 (i : Nat))] (ds_ (sq_ ?_)))))))))))
   obtain ⟨b338, o338, rfl⟩ := hs10.pos (i := i) (by omega)
   obtain ⟨x340, hx340⟩ := get_some (l := el10) (m := i) (by omega)
   have hrx340 := hrd10 x340 (List.mem_of_getElem? hx340)
   have hsx340 : Sv wR331 x340.p x340.l := hrx340.sv
   have hnx340 : x340.n = x340.l.length := hrx340.hn
   have hcx340 : x340.n ≤ x340.cap := hrx340.hc
   have hbx340 : x340.cap ≤ 9223372036854775807 := hrx340.hb
   have hgx340 := hg10 x340 (List.mem_of_getElem? hx340)
   obtain ⟨b342, o342, rfl⟩ := hs328.pos (i := i) (by omega)
   obtain ⟨x344, hx344⟩ := get_some (l := el328) (m := i) (by omega)
   have hrx344 := hrd328 x344 (List.mem_of_getElem? hx344)
   have hsx344 : Sv wR331 x344.p x344.l := hrx344.sv
   have hnx344 : x344.n = x344.l.length := hrx344.hn
   have hcx344 : x344.n ≤ x344.cap := hrx344.hc
   have hbx344 : x344.cap ≤ 9223372036854775807 := hrx344.hb
   have hgx344 := hg328 x344 (List.mem_of_getElem? hx344)
   refine at_calm rfl (by kernel_rfl) (by kernel_rfl) ?_
   refine cm 8 [(2, .at b338 o338 i), (3, .go (outs b338 (o338 + i * 6) [.slice x340.p x340.n x340.cap, .int .u64 x340.th, .int .u64 x340.tl, .int .u64 x340.tw, .int .u64 x340.ord, .bool x340.fresh])), (6, .at b342 o342 i), (7, .go (outs b342 (o342 + i * 6) [.slice x344.p x344.n x344.cap, .int .u64 x344.th, .int .u64 x344.tl, .int .u64 x344.tw, .int .u64 x344.ord, .bool x344.fresh]))] [6, 10, 12, 77, 78] [(84, .agg #[.slice x340.p x340.n x340.cap, .int .u64 x340.th, .int .u64 x340.tl, .int .u64 x340.tw, .int .u64 x340.ord, .bool x340.fresh]), (88, .agg #[.slice x344.p x344.n x344.cap, .int .u64 x344.th, .int .u64 x344.tl, .int .u64 x344.tw, .int .u64 x344.ord, .bool x344.fresh])] ([(some ⟨b338, o338, none⟩ : Option Addr) = some ⟨b338, o338, none⟩, (i : Nat) = ((i : Nat) : Int), i < n10] ++ (cellsP wR331 b338 (o338 + i * 6) [.slice x340.p x340.n x340.cap, .int .u64 x340.th, .int .u64 x340.tl, .int .u64 x340.tw, .int .u64 x340.ord, .bool x340.fresh] ++ ([(some ⟨b342, o342, none⟩ : Option Addr) = some ⟨b342, o342, none⟩, (i : Nat) = ((i : Nat) : Int), i < n328] ++ (cellsP wR331 b342 (o342 + i * 6) [.slice x344.p x344.n x344.cap, .int .u64 x344.th, .int .u64 x344.tl, .int .u64 x344.tw, .int .u64 x344.ord, .bool x344.fresh])))) (by kernel_rfl) rfl (alA (al2 rfl (al2 rfl (al1 (by omega)))) (alA (rd_pre (hs10.get hx340) _ rfl) (alA (al2 rfl (al2 rfl (al1 (by omega)))) (rd_pre (hs328.get hx344) _ rfl)))) ?_
   refine cK (.bool true) Try.call21 (fun w hw => by have := like_t x340 x344 w (hrx340.kept hw.below) (hrx344.kept hw.below) (rt_first hgx340.1) (rt_first hgx344.1); rw [like_same hgx340.1 (at_same hV10 hV328 hx340 hx344)] at this; exact this) ?_
   refine cm 12 [(13, .at b338 o338 i), (15, .go (outs b338 (o338 + i * 6) [.slice x340.p x340.n x340.cap])), (18, .at b342 o342 i), (20, .go (outs b342 (o342 + i * 6) [.slice x344.p x344.n x344.cap]))] [6, 10, 77, 78] [(91, .bool false), (96, .slice x340.p x340.n x340.cap), (101, .slice x344.p x344.n x344.cap)] ([(some ⟨b338, o338, none⟩ : Option Addr) = some ⟨b338, o338, none⟩, (i : Nat) = ((i : Nat) : Int), i < n10] ++ (cellsP wR331 b338 (o338 + i * 6) [.slice x340.p x340.n x340.cap] ++ ([(some ⟨b342, o342, none⟩ : Option Addr) = some ⟨b342, o342, none⟩, (i : Nat) = ((i : Nat) : Int), i < n328] ++ (cellsP wR331 b342 (o342 + i * 6) [.slice x344.p x344.n x344.cap])))) (by kernel_rfl) rfl (alA (al2 rfl (al2 rfl (al1 (by omega)))) (alA (rd_pre (hs10.get hx340) _ rfl) (alA (al2 rfl (al2 rfl (al1 (by omega)))) (rd_pre (hs328.get hx344) _ rfl)))) ?_
   refine cK (.bool true) Try.call23 (fun w hw => by have := iequal_t x340.p x340.n x340.cap x340.l x344.p x344.n x344.cap x344.l w (hsx340.kept hw.below) hnx340 hgx340.2 (hsx344.kept hw.below) hnx344 hgx344.2; rw [decide_eq_true (show x340.l = x344.l from congrArg En.mem (at_same hV10 hV328 hx340 hx344))] at this; exact this) ?_
   refine cm 2 [] [6, 10, 77, 78] [(104, .bool false)] ([]) (by kernel_rfl) rfl al0 ?_
   refine calm_nil' ?_
   refine ds_ (f_ (at_skip (done_block (ds_ (qa [(0, .fit)] [6, 10, 77] [(78, .int .i64 (i + 1 : Nat))] ([Fit .i64 ((i + 1 : Nat))]) (al1 (fit64 (by omega) (by omega))) ?_)))))
   exact done_round [6, 10, 77, 78] (i + 1) (by kernel_rfl) rfl (by show i + 1 ≤ n10; omega) (by first | omega | (simp only; omega))
  ·
   refine qa [(0, .no)] [6, 10, 77, 78] [(79, .bool false)] ([¬ (((i : Nat) : Int) < ((n10 : Nat) : Int))]) (al1 q334) (ds_ (sq_ (f_ (at_leave _ rfl (ds_ (sq_ (qa0 [] [] [(4, .bool true)] (ds_ (rt ([]) (.bool true) ?_)))))))))
   exact fun w' hw => ⟨rfl, ((hS7.over hS331).over hw).below⟩
 ·
  refine qa [(1, .no)] [1, 5, 6, 7, 8] [(31, .bool false)] ([¬ (((nc5 : Nat) : Int) > (0 : Int))]) (al1 q14) (ds_ (f_ (at_skip (ds_ (sq_ (ao_ (qo0 6 [(1, .go (owns 0 0 1)), (3, .go (owns 0 1 1)), (5, .go (owns 0 2 1))] [6, 7] [(58, .agg #[.slice qa5 na5 ca5]), (60, .slice qb5 nb5 cb5), (62, .slice qc5 nc5 cc_5)] (cP (fun v L' => ∃ q_ n_ c_ Y_ Z_ el_, v = .tuple #[.slice q_ n_ c_, .int .i64 (chkO (ts.take 17) (ws.take 17) (shortG (al.map IntsA.l)))] ∧ L' = List.take 1 (bx (γ8 0) (#[.slice qa5 na5 ca5, .slice qb5 nb5 cb5, .slice qc5 nc5 cc_5]) 30 :: (Y10 ++ (Yz10 ++ []))) ++ (Y_ ++ (Z_ ++ List.drop 1 (bx (γ8 0) (#[.slice qa5 na5 ca5, .slice qb5 nb5 cb5, .slice qc5 nc5 cc_5]) 30 :: (Y10 ++ (Yz10 ++ []))))) ∧ SlO 47 Y_ q_ n_ c_ el_ ∧ GotE 3 Z_ el_ ∧ el_.map EnA.val = (if chkO (ts.take 17) (ws.take 17) (shortG (al.map IntsA.l)) = 0 then docV (ts.take 17) (ws.take 17) (shortG (al.map IntsA.l)) else []) ∧ (∀ x ∈ el_, x.U)) Try.call12 (fun w hw => (ents_t qa5 na5 ca5 (ts.take 17) qb5 nb5 cb5 (ws.take 17) qc5 nc5 cc_5 gl5 w (hsa.kept hw.below) hlx5 (by omega) (take_U hU) (hsb.kept hw.below) hly5 (by omega) (fun x hx => hWU x (List.mem_of_mem_take hx)) (hsc.kept hw.below) hlc5 (by omega) (fun x hx => (hrg x (hx)).kept hw.below) hg9).mono fun e w' ⟨q_, n_, c_, Y_, Z_, el_, he, hO, hG, hV, hU, hb, hY⟩ => by rw [hV5] at he hV; exact ⟨_, _, he, ⟨q_, n_, c_, Y_, Z_, el_, rfl, rfl, hO, hG, hV, hU⟩, hs_re (hw.join hb hY 1)⟩) ?_))))))))
  rintro v353 L353 ⟨q353, n353, c353, Y353, Yz353, el353, rfl, rfl, hO353, hG353, hV353, hE353⟩
  refine qo0 5 [] [6, 7] [(10, .slice q353 n353 c353), (11, .int .i64 (chkO (ts.take 17) (ws.take 17) (shortG (al.map IntsA.l))))] (on_ (ds_ (sq_ (sq_ ?_))))
  have hq10 := hO10.len
  have hq353 := hO353.len
  have hqq : el10.length = el353.length := by have := congrArg List.length (hV10.trans hV353.symm); rwa [List.length_map, List.length_map] at this
  have hqk : el10.length ≤ 1000 := by have := congrArg List.length hV10; rw [List.length_map] at this; rw [this]; exact ents_len
  refine qa [(2, .no), (8, .no)] [6, 10] [(75, .bool false)] ([¬ (((chkO (ts.take 17) (ws.take 17) (shortG (al.map IntsA.l))) : Int) ≠ ((chkO (ts.take 17) (ws.take 17) (shortG (al.map IntsA.l))) : Int))] ++ ([¬ (((n10 : Nat) : Int) ≠ ((n353 : Nat) : Int))])) (alA (al1 (fun h => h rfl)) (al1 (by omega))) (ds_ (f_ (at_skip (ds_ (sq_ (sq_ (at_rebase fun wR356 hS356 => ?_)))))))
  have hs10 := hO10.sub hS356 (List.Sublist.cons _ (List.Sublist.trans (List.Sublist.trans (List.sublist_append_left Y10 _) (List.sublist_append_right Yz353 _)) (List.sublist_append_right Y353 _)))
  have hnn10 := hO10.len
  have hrd10 := GotE.reads hG10 hE10 hS356 (List.Sublist.cons _ (List.Sublist.trans (List.Sublist.trans (List.Sublist.trans (List.sublist_append_left Yz10 _) (List.sublist_append_right Y10 _)) (List.sublist_append_right Yz353 _)) (List.sublist_append_right Y353 _)))
  have hs353 := hO353.sub hS356 (List.Sublist.cons _ (List.sublist_append_left Y353 _))
  have hnn353 := hO353.len
  have hrd353 := GotE.reads hG353 hE353 hS356 (List.Sublist.cons _ (List.Sublist.trans (List.sublist_append_left Yz353 _) (List.sublist_append_right Y353 _)))
  have hg10 : ∀ x ∈ el10, rightE x.val = true ∧ x.n ≤ 1000 := fun x hx => by
   have h1 : x.val ∈ el10.map EnA.val := List.mem_map_of_mem hx
   rw [hV10] at h1
   have h2 := ents_small h1
   have h3 := (hrd10 x hx).hn
   have h4 : x.l.length ≤ 1000 := h2
   exact ⟨ents_right h1, by omega⟩
  have hg353 : ∀ x ∈ el353, rightE x.val = true ∧ x.n ≤ 1000 := fun x hx => by
   have h1 : x.val ∈ el353.map EnA.val := List.mem_map_of_mem hx
   rw [hV353] at h1
   have h2 := ents_small h1
   have h3 := (hrd353 x hx).hn
   have h4 : x.l.length ≤ 1000 := h2
   exact ⟨ents_right h1, by omega⟩
  refine qa0 [] [6, 10] [(77, .int .i64 (n10 : Nat)), (78, .int .i64 0)] (ds_ (at_block (at_loop (α := Nat) [6, 10, 77, 78] (fun i => [(6, .slice q10 n10 c10), (10, .slice q353 n353 c353), (77, .int .i64 (n10 : Nat)), (78, .int .i64 (i : Nat))]) (fun i => []) (fun i => i ≤ n10) (fun i => n10 - i) 0 (by kernel_rfl) rfl (Nat.zero_le _) ?_)))
  rintro i
  intro hi
  refine sq_ ?_
  by_cases q359 : ((i : Nat) : Int) < ((n10 : Nat) : Int)
  ·
   refine qa [(0, .yes)] [6, 10, 77, 78] [(79, .bool true)] ([((i : Nat) : Int) < ((n10 : Nat) : Int)]) (al1 q359) (ds_ (sq_ (t_ (at_skip (ds_ (sq_ (at_block (sq_ (qa0 [] [6, 10, 77, 78] [(12, .int .i64 (i : Nat))] (ds_ (sq_ ?_)))))))))))
   obtain ⟨b363, o363, rfl⟩ := hs10.pos (i := i) (by omega)
   obtain ⟨x365, hx365⟩ := get_some (l := el10) (m := i) (by omega)
   have hrx365 := hrd10 x365 (List.mem_of_getElem? hx365)
   have hsx365 : Sv wR356 x365.p x365.l := hrx365.sv
   have hnx365 : x365.n = x365.l.length := hrx365.hn
   have hcx365 : x365.n ≤ x365.cap := hrx365.hc
   have hbx365 : x365.cap ≤ 9223372036854775807 := hrx365.hb
   have hgx365 := hg10 x365 (List.mem_of_getElem? hx365)
   obtain ⟨b367, o367, rfl⟩ := hs353.pos (i := i) (by omega)
   obtain ⟨x369, hx369⟩ := get_some (l := el353) (m := i) (by omega)
   have hrx369 := hrd353 x369 (List.mem_of_getElem? hx369)
   have hsx369 : Sv wR356 x369.p x369.l := hrx369.sv
   have hnx369 : x369.n = x369.l.length := hrx369.hn
   have hcx369 : x369.n ≤ x369.cap := hrx369.hc
   have hbx369 : x369.cap ≤ 9223372036854775807 := hrx369.hb
   have hgx369 := hg353 x369 (List.mem_of_getElem? hx369)
   refine at_calm rfl (by kernel_rfl) (by kernel_rfl) ?_
   refine cm 8 [(2, .at b363 o363 i), (3, .go (outs b363 (o363 + i * 6) [.slice x365.p x365.n x365.cap, .int .u64 x365.th, .int .u64 x365.tl, .int .u64 x365.tw, .int .u64 x365.ord, .bool x365.fresh])), (6, .at b367 o367 i), (7, .go (outs b367 (o367 + i * 6) [.slice x369.p x369.n x369.cap, .int .u64 x369.th, .int .u64 x369.tl, .int .u64 x369.tw, .int .u64 x369.ord, .bool x369.fresh]))] [6, 10, 12, 77, 78] [(84, .agg #[.slice x365.p x365.n x365.cap, .int .u64 x365.th, .int .u64 x365.tl, .int .u64 x365.tw, .int .u64 x365.ord, .bool x365.fresh]), (88, .agg #[.slice x369.p x369.n x369.cap, .int .u64 x369.th, .int .u64 x369.tl, .int .u64 x369.tw, .int .u64 x369.ord, .bool x369.fresh])] ([(some ⟨b363, o363, none⟩ : Option Addr) = some ⟨b363, o363, none⟩, (i : Nat) = ((i : Nat) : Int), i < n10] ++ (cellsP wR356 b363 (o363 + i * 6) [.slice x365.p x365.n x365.cap, .int .u64 x365.th, .int .u64 x365.tl, .int .u64 x365.tw, .int .u64 x365.ord, .bool x365.fresh] ++ ([(some ⟨b367, o367, none⟩ : Option Addr) = some ⟨b367, o367, none⟩, (i : Nat) = ((i : Nat) : Int), i < n353] ++ (cellsP wR356 b367 (o367 + i * 6) [.slice x369.p x369.n x369.cap, .int .u64 x369.th, .int .u64 x369.tl, .int .u64 x369.tw, .int .u64 x369.ord, .bool x369.fresh])))) (by kernel_rfl) rfl (alA (al2 rfl (al2 rfl (al1 (by omega)))) (alA (rd_pre (hs10.get hx365) _ rfl) (alA (al2 rfl (al2 rfl (al1 (by omega)))) (rd_pre (hs353.get hx369) _ rfl)))) ?_
   refine cK (.bool true) Try.call21 (fun w hw => by have := like_t x365 x369 w (hrx365.kept hw.below) (hrx369.kept hw.below) (rt_first hgx365.1) (rt_first hgx369.1); rw [like_same hgx365.1 (at_same hV10 hV353 hx365 hx369)] at this; exact this) ?_
   refine cm 12 [(13, .at b363 o363 i), (15, .go (outs b363 (o363 + i * 6) [.slice x365.p x365.n x365.cap])), (18, .at b367 o367 i), (20, .go (outs b367 (o367 + i * 6) [.slice x369.p x369.n x369.cap]))] [6, 10, 77, 78] [(91, .bool false), (96, .slice x365.p x365.n x365.cap), (101, .slice x369.p x369.n x369.cap)] ([(some ⟨b363, o363, none⟩ : Option Addr) = some ⟨b363, o363, none⟩, (i : Nat) = ((i : Nat) : Int), i < n10] ++ (cellsP wR356 b363 (o363 + i * 6) [.slice x365.p x365.n x365.cap] ++ ([(some ⟨b367, o367, none⟩ : Option Addr) = some ⟨b367, o367, none⟩, (i : Nat) = ((i : Nat) : Int), i < n353] ++ (cellsP wR356 b367 (o367 + i * 6) [.slice x369.p x369.n x369.cap])))) (by kernel_rfl) rfl (alA (al2 rfl (al2 rfl (al1 (by omega)))) (alA (rd_pre (hs10.get hx365) _ rfl) (alA (al2 rfl (al2 rfl (al1 (by omega)))) (rd_pre (hs353.get hx369) _ rfl)))) ?_
   refine cK (.bool true) Try.call23 (fun w hw => by have := iequal_t x365.p x365.n x365.cap x365.l x369.p x369.n x369.cap x369.l w (hsx365.kept hw.below) hnx365 hgx365.2 (hsx369.kept hw.below) hnx369 hgx369.2; rw [decide_eq_true (show x365.l = x369.l from congrArg En.mem (at_same hV10 hV353 hx365 hx369))] at this; exact this) ?_
   refine cm 2 [] [6, 10, 77, 78] [(104, .bool false)] ([]) (by kernel_rfl) rfl al0 ?_
   refine calm_nil' ?_
   refine ds_ (f_ (at_skip (done_block (ds_ (qa [(0, .fit)] [6, 10, 77] [(78, .int .i64 (i + 1 : Nat))] ([Fit .i64 ((i + 1 : Nat))]) (al1 (fit64 (by omega) (by omega))) ?_)))))
   exact done_round [6, 10, 77, 78] (i + 1) (by kernel_rfl) rfl (by show i + 1 ≤ n10; omega) (by first | omega | (simp only; omega))
  ·
   refine qa [(0, .no)] [6, 10, 77, 78] [(79, .bool false)] ([¬ (((i : Nat) : Int) < ((n10 : Nat) : Int))]) (al1 q359) (ds_ (sq_ (f_ (at_leave _ rfl (ds_ (sq_ (qa0 [] [] [(4, .bool true)] (ds_ (rt ([]) (.bool true) ?_)))))))))
   exact fun w' hw => ⟨rfl, ((hS7.over hS356).over hw).below⟩
end Go.Proofs.Ytoljahfofkmdaaa

/-! The walker: what a row's inputs are: slices and structs, opened into lists. -/
namespace Go.Proofs.Ytoljahfofkmdaaa
open Go Go.RowKit

section
variable {H : Type} {enc : TypeId × Value → H} {P : Program} {w : World} {base : Nat} {spare : Nat → Bool} {held : Bool}
theorem spot_none {a : Addr} (h : a.spot = none) : a = ⟨a.block, a.off, none⟩ := by
  cases a
  simp at h
  simp [h]
theorem trod_sv {α : Type} [Enc α] {t e : TypeId} {fuel : Nat} {cs : List Value} {x : DataW H × List MemPlace} {Good : α → Prop} (ht : P.underlying t = some (.slice e)) (hc : P.cellsOf e = Enc.k α)
    (hopen : ∀ (fuel : Nat) (cs : List Value) (x : DataW H × List MemPlace), DataW.trod enc P w base spare held fuel e cs = some x → ∃ a : α, cs = Enc.enc a ∧ Good a) (h : DataW.trod enc P w base spare held fuel t cs = some x) :
    ∃ (p : Option Addr) (n cap : Nat) (l : List α), cs = [.slice p n cap] ∧ Sv w p l ∧ n = l.length ∧ n ≤ cap ∧ cap ≤ maxLen ∧ ∀ y ∈ l, Good y := by
  rcases Deep.open_slice ht h with ⟨hcs, _⟩ | ⟨a, len, cap, m, n', D, Pl, hcs, _, hle, hmx, hm, _, hi⟩
  · exact ⟨none, 0, 0, [], hcs, Sv.nil, rfl, Nat.le_refl _, Nat.zero_le _, fun y hy => by cases hy⟩
  · have key : ∀ i, i < len → ∃ y : α, w.cells? base (a.add (i * Enc.k α)) (Enc.k α) = some (Enc.enc y) ∧ Good y := fun i hin => by
      have him : i < m := by rw [hm]; split <;> omega
      obtain ⟨cs', h1, h2⟩ := hi i him
      obtain ⟨y, rfl, hy⟩ := hopen _ _ _ h2
      rw [hc] at h1
      exact ⟨y, h1, hy⟩
    rcases Nat.eq_zero_or_pos len with h0 | h0
    · subst h0
      exact ⟨some a, 0, cap, [], hcs, Sv.nil, rfl, hle, hmx, fun y hy => by cases hy⟩
    · obtain ⟨y0, hy0, _⟩ := key 0 h0
      haveI : Inhabited α := ⟨y0⟩
      obtain ⟨f, hf⟩ := Deep.choose_lt key
      obtain ⟨_, _, hcell⟩ := World.cells?_some hy0
      have h00 := hcell 0 Enc.pos
      have hlen0 : 0 < (Enc.enc y0).length := by rw [Enc.len]; exact Enc.pos
      rw [List.getElem?_eq_getElem hlen0, Nat.zero_mul, show (a.add 0).add 0 = a by simp [Addr.add]] at h00
      have hsp := spot_none (World.cell?_spot h00)
      refine ⟨some a, len, cap, (List.range len).map f, hcs, ⟨fun _ => ⟨a.block, a.off, by rw [← hsp]⟩, fun b o hbo i hil => ?_⟩, by simp, hle, hmx, fun y hy => ?_⟩
      · have hil' : i < len := by simpa using hil
        obtain ⟨_, _, hc2⟩ := World.cells?_some (hf i hil').1
        have ha : a = ⟨b, o, none⟩ := by simpa using hbo
        subst ha
        intro j v hj
        have hjk : j < Enc.k α := by rw [← Enc.len (f i)]; have := (List.getElem?_eq_some_iff.1 hj).1; simpa using this
        have h3 := hc2 j hjk
        rw [Deep.add_add] at h3
        have h4 : (Enc.enc (f i))[j]? = some v := by simpa using hj
        rw [h4] at h3
        have h5 : (⟨b, o, none⟩ : Addr).add (i * Enc.k α + j) = ⟨b, o + i * Enc.k α + j, none⟩ := by
          unfold Addr.add; split <;> simp_all <;> omega
        rw [h5] at h3
        exact h3
      · obtain ⟨i, hir, rfl⟩ := List.mem_map.1 hy
        exact (hf i (List.mem_range.1 hir)).2
theorem list2' {α : Type} {cs : List α} (h : cs.length = 2) : ∃ c0 c1, cs = [c0, c1] := by
  match cs, h with
  | [a, b], _ => exact ⟨a, b, rfl⟩
theorem trod_int1 {t : TypeId} {fuel : Nat} {cs : List Value} {x : DataW H × List MemPlace} (ht : P.underlying t = some (.int .i64)) (h : DataW.trod enc P w base spare held fuel t cs = some x) : ∃ a : Int, cs = Enc.enc a ∧ True := by
  obtain ⟨a, rfl, _, _⟩ := DataW.trod_int ht h
  exact ⟨a, rfl, trivial⟩
end
end Go.Proofs.Ytoljahfofkmdaaa

/-! Chapter 10: what the rows' inputs are. -/
namespace Go.Proofs.Ytoljahfofkmdaaa
open Go Go.RowKit Go.ChangeShapes Go.WideShapes

section
variable {H : Type} {enc : TypeId × Value → H} {w : World} {base : Nat} {spare : Nat → Bool} {held : Bool}
theorem cInt0 : Try.prog.cellsOf 3 = 1 := by kernel_rfl
theorem cU64 : Try.prog.cellsOf 41 = 1 := by kernel_rfl
theorem cWid : Try.prog.cellsOf 43 = 2 := by kernel_rfl
theorem cFra : Try.prog.cellsOf 45 = 3 := by kernel_rfl
theorem cRun : Try.prog.cellsOf 67 = 5 := by kernel_rfl
theorem list3u {α : Type} {cs : List α} (h : cs.length = 3) : ∃ a b c, cs = [a, b, c] := by
  match cs, h with
  | [a, b, c], _ => exact ⟨a, b, c, rfl⟩
theorem list5u {α : Type} {cs : List α} (h : cs.length = 5) : ∃ a b c d e, cs = [a, b, c, d, e] := by
  match cs, h with
  | [a, b, c, d, e], _ => exact ⟨a, b, c, d, e, rfl⟩
theorem u64_wf {n : Int} (h : (Lit.int .u64 n).wf = true) : 0 ≤ n ∧ n < 18446744073709551616 := by
  simp only [Lit.wf, Bool.and_eq_true, decide_eq_true_eq] at h
  have h1 : (0 : Int) ≤ n := h.1
  have h2 : n ≤ 18446744073709551615 := h.2
  omega
theorem i64_wf {n : Int} (h : (Lit.int .i64 n).wf = true) : -9223372036854775808 ≤ n ∧ n ≤ 9223372036854775807 := by
  simp only [Lit.wf, Bool.and_eq_true, decide_eq_true_eq] at h
  exact ⟨h.1, h.2⟩
set_option maxRecDepth 100000 in
theorem wide_open {fuel : Nat} {cs : List Value} {x : DataW H × List MemPlace} (h : DataW.trod enc Try.prog w base spare held fuel 43 cs = some x) : ∃ a b : Int, cs = [.int .u64 a, .int .u64 b] ∧ (0 ≤ a ∧ a < 18446744073709551616) ∧ (0 ≤ b ∧ b < 18446744073709551616) := by
  obtain ⟨xs, n, _, rfl, hl, hlen, hf⟩ := DataW.trod_struct Try.underlying43 h
  rw [cWid] at hl
  obtain ⟨c0, c1, rfl⟩ := list2' hl
  obtain ⟨y0, y1, rfl⟩ := list2' hlen
  have h0 : DataW.trod enc Try.prog w base spare held n 41 (([c0, c1].drop 0).take (Try.prog.cellsOf 41)) = some y0 := hf 0 _ rfl
  have h1 : DataW.trod enc Try.prog w base spare held n 41 (([c0, c1].drop 1).take (Try.prog.cellsOf 41)) = some y1 := hf 1 _ rfl
  clear hf hl hlen h
  rw [cU64] at h0 h1
  simp only [List.drop_zero, List.take_succ_cons, List.take_zero, List.drop_succ_cons] at h0 h1
  obtain ⟨a, e0, _, f0⟩ := DataW.trod_int Try.underlying41 h0
  obtain ⟨b, e1, _, f1⟩ := DataW.trod_int Try.underlying41 h1
  simp only [List.cons.injEq, and_true] at e0 e1
  subst e0; subst e1
  exact ⟨a, b, rfl, u64_wf f0, u64_wf f1⟩
set_option maxRecDepth 100000 in
theorem fq_open {fuel : Nat} {cs : List Value} {x : DataW H × List MemPlace} (h : DataW.trod enc Try.prog w base spare held fuel 45 cs = some x) : ∃ a : Fq, cs = Enc.enc a ∧ a.U := by
  obtain ⟨xs, n, _, rfl, hl, hlen, hf⟩ := DataW.trod_struct Try.underlying45 h
  rw [cFra] at hl
  obtain ⟨c0, c1, c2, rfl⟩ := list3u hl
  obtain ⟨y0, y1, rfl⟩ := list2' hlen
  have h0 : DataW.trod enc Try.prog w base spare held n 43 (([c0, c1, c2].drop 0).take (Try.prog.cellsOf 43)) = some y0 := hf 0 _ rfl
  have h1 : DataW.trod enc Try.prog w base spare held n 41 (([c0, c1, c2].drop 2).take (Try.prog.cellsOf 41)) = some y1 := hf 1 _ rfl
  clear hf hl hlen h
  rw [cWid] at h0
  rw [cU64] at h1
  simp only [List.drop_zero, List.take_succ_cons, List.take_zero, List.drop_succ_cons] at h0 h1
  obtain ⟨a, b, e0, fa, fb⟩ := wide_open h0
  obtain ⟨c, e1, _, f1⟩ := DataW.trod_int Try.underlying41 h1
  simp only [List.cons.injEq, and_true] at e0 e1
  obtain ⟨rfl, rfl⟩ := e0
  subst e1
  have fc := u64_wf f1
  exact ⟨⟨a, b, c⟩, rfl, ⟨fa.1, fa.2, fb.1, fb.2, fc.1, fc.2⟩⟩
set_option maxRecDepth 100000 in
theorem rn_open {fuel : Nat} {cs : List Value} {x : DataW H × List MemPlace} (h : DataW.trod enc Try.prog w base spare held fuel 67 cs = some x) : ∃ a : Rn, cs = Enc.enc a ∧ a.U := by
  obtain ⟨xs, n, _, rfl, hl, hlen, hf⟩ := DataW.trod_struct Try.underlying67 h
  rw [cRun] at hl
  obtain ⟨c0, c1, c2, c3, c4, rfl⟩ := list5u hl
  obtain ⟨y0, y1, y2, rfl⟩ := list3u hlen
  have h0 : DataW.trod enc Try.prog w base spare held n 3 (([c0, c1, c2, c3, c4].drop 0).take (Try.prog.cellsOf 3)) = some y0 := hf 0 _ rfl
  have h1 : DataW.trod enc Try.prog w base spare held n 3 (([c0, c1, c2, c3, c4].drop 1).take (Try.prog.cellsOf 3)) = some y1 := hf 1 _ rfl
  have h2 : DataW.trod enc Try.prog w base spare held n 45 (([c0, c1, c2, c3, c4].drop 2).take (Try.prog.cellsOf 45)) = some y2 := hf 2 _ rfl
  clear hf hl hlen h
  rw [cInt0] at h0 h1
  rw [cFra] at h2
  simp only [List.drop_zero, List.take_succ_cons, List.take_zero, List.drop_succ_cons] at h0 h1 h2
  obtain ⟨a, e0, _, f0⟩ := DataW.trod_int Try.underlying3 h0
  obtain ⟨b, e1, _, f1⟩ := DataW.trod_int Try.underlying3 h1
  obtain ⟨t, e2, ht⟩ := fq_open h2
  simp only [List.cons.injEq, and_true] at e0 e1
  subst e0; subst e1
  have e2' : [c2, c3, c4] = [.int .u64 t.hi, .int .u64 t.lo, .int .u64 t.w] := e2
  simp only [List.cons.injEq, and_true] at e2'
  obtain ⟨rfl, rfl, rfl⟩ := e2'
  have g0 := i64_wf f0
  have g1 := i64_wf f1
  exact ⟨⟨a, b, t.hi, t.lo, t.w⟩, rfl, ⟨g0.1, g0.2, g1.1, g1.2, ht⟩⟩
end
end Go.Proofs.Ytoljahfofkmdaaa

/-! Chapter 12: what the rows' inputs are. -/
namespace Go.Proofs.Ytoljahfofkmdaaa
open Go Go.RowKit Go.ChangeShapes Go.WideShapes
section
variable {H : Type} {enc : TypeId × Value → H} {w : World} {base : Nat} {spare : Nat → Bool} {held : Bool}
theorem cIntsO : Try.prog.cellsOf 40 = 1 := by kernel_rfl
theorem cBoolO : Try.prog.cellsOf 4 = 1 := by kernel_rfl
set_option maxRecDepth 100000 in
theorem intsA_open {fuel : Nat} {cs : List Value} {x : DataW H × List MemPlace} (h : DataW.trod enc Try.prog w base spare held fuel 40 cs = some x) : ∃ a : IntsA, cs = Enc.enc a ∧ a.Reads w := by
  obtain ⟨p, m, cap, l, he, hs, hn, hle, hmx, _⟩ := trod_sv (α := Int) (Good := fun _ => True) Try.underlying40 cInt0 (fun _ _ _ h => trod_int1 Try.underlying3 h) h
  exact ⟨⟨p, m, cap, l⟩, he, ⟨hs, hn, hle, hmx⟩⟩
end
end Go.Proofs.Ytoljahfofkmdaaa

/-! Chapter 12: what is put in order, opened. -/
namespace Go.Proofs.Ytoljahfofkmdaaa
open Go Go.RowKit Go.ChangeShapes Go.WideShapes
section
variable {H : Type} {enc : TypeId × Value → H} {w : World} {base : Nat} {spare : Nat → Bool} {held : Bool}
theorem cWaitO : Try.prog.cellsOf 51 = 3 := by kernel_rfl
theorem cWaitsO : Try.prog.cellsOf 27 = 1 := by kernel_rfl
theorem cGangsO : Try.prog.cellsOf 28 = 1 := by kernel_rfl
theorem cQueueO : Try.prog.cellsOf 26 = 1 := by kernel_rfl
theorem cRunsO : Try.prog.cellsOf 24 = 1 := by kernel_rfl
theorem cRowO : Try.prog.cellsOf 30 = 3 := by kernel_rfl
set_option maxRecDepth 100000 in
theorem wait_open {fuel : Nat} {cs : List Value} {x : DataW H × List MemPlace} (h : DataW.trod enc Try.prog w base spare held fuel 51 cs = some x) : ∃ a : Wt, cs = Enc.enc a ∧ a.U := by
  obtain ⟨xs, n, _, rfl, hl, hlen, hf⟩ := DataW.trod_struct Try.underlying51 h
  rw [cWaitO] at hl
  obtain ⟨c0, c1, c2, rfl⟩ := list3u hl
  obtain ⟨y0, y1, y2, rfl⟩ := list3u hlen
  have h0 : DataW.trod enc Try.prog w base spare held n 3 (([c0, c1, c2].drop 0).take (Try.prog.cellsOf 3)) = some y0 := hf 0 _ rfl
  have h1 : DataW.trod enc Try.prog w base spare held n 41 (([c0, c1, c2].drop 1).take (Try.prog.cellsOf 41)) = some y1 := hf 1 _ rfl
  have h2 : DataW.trod enc Try.prog w base spare held n 4 (([c0, c1, c2].drop 2).take (Try.prog.cellsOf 4)) = some y2 := hf 2 _ rfl
  clear hf hl hlen h
  rw [cInt0] at h0
  rw [cU64] at h1
  rw [cBoolO] at h2
  simp only [List.drop_zero, List.take_succ_cons, List.take_zero, List.drop_succ_cons] at h0 h1 h2
  obtain ⟨a, e0, _, f0⟩ := DataW.trod_int Try.underlying3 h0
  obtain ⟨b, e1, _, f1⟩ := DataW.trod_int Try.underlying41 h1
  obtain ⟨d, e2, _⟩ := DataW.trod_bool Try.underlying4 h2
  simp only [List.cons.injEq, and_true] at e0 e1 e2
  subst e0; subst e1; subst e2
  have g0 := i64_wf f0
  have g1 := u64_wf f1
  exact ⟨⟨a, b, d⟩, rfl, ⟨g0.1, g0.2, g1.1, g1.2⟩⟩
set_option maxRecDepth 100000 in
theorem rowO_open {fuel : Nat} {cs : List Value} {x : DataW H × List MemPlace} (h : DataW.trod enc Try.prog w base spare held fuel 30 cs = some x) : ∃ a : RowO, cs = Enc.enc a ∧ a.Reads w := by
  obtain ⟨xs, n, _, rfl, hl, hlen, hf⟩ := DataW.trod_struct Try.underlying30 h
  rw [cRowO] at hl
  obtain ⟨c0, c1, c2, rfl⟩ := list3u hl
  obtain ⟨y0, y1, y2, rfl⟩ := list3u hlen
  have h0 : DataW.trod enc Try.prog w base spare held n 26 (([c0, c1, c2].drop 0).take (Try.prog.cellsOf 26)) = some y0 := hf 0 _ rfl
  have h1 : DataW.trod enc Try.prog w base spare held n 27 (([c0, c1, c2].drop 1).take (Try.prog.cellsOf 27)) = some y1 := hf 1 _ rfl
  have h2 : DataW.trod enc Try.prog w base spare held n 28 (([c0, c1, c2].drop 2).take (Try.prog.cellsOf 28)) = some y2 := hf 2 _ rfl
  clear hf hl hlen h
  rw [cQueueO] at h0
  rw [cWaitsO] at h1
  rw [cGangsO] at h2
  simp only [List.drop_zero, List.take_succ_cons, List.take_zero, List.drop_succ_cons] at h0 h1 h2
  obtain ⟨zs, k, _, e9, hl0, hlen0, hf0⟩ := DataW.trod_struct Try.underlying26 h0
  rw [cQueueO] at hl0
  obtain ⟨z0, rfl⟩ := List.length_eq_one_iff.1 hlen0
  have h00 : DataW.trod enc Try.prog w base spare held k 24 (([c0].drop 0).take (Try.prog.cellsOf 24)) = some z0 := hf0 0 _ rfl
  rw [cRunsO] at h00
  simp only [List.drop_zero, List.take_succ_cons, List.take_zero] at h00
  obtain ⟨p, m, cap, l, he, hs, hn, hle, hmx, hg⟩ := trod_sv (α := Rn) (Good := fun r => r.U) Try.underlying24 cRun (fun _ _ _ h => rn_open h) h00
  obtain ⟨p1, m1, cap1, l1, he1, hs1, hn1, hle1, hmx1, hg1⟩ := trod_sv (α := Wt) (Good := fun r => r.U) Try.underlying27 cWaitO (fun _ _ _ h => wait_open h) h1
  obtain ⟨p2, m2, cap2, l2, he2, hs2, hn2, hle2, hmx2, hg2⟩ := trod_sv (α := IntsA) Try.underlying28 cIntsO (fun _ _ _ h => intsA_open h) h2
  simp only [List.cons.injEq, and_true] at he he1 he2
  subst he; subst he1; subst he2
  exact ⟨⟨p, m, cap, l, p1, m1, cap1, l1, p2, m2, cap2, l2⟩, rfl, ⟨hs, hn, hle, hmx, hg, hs1, hn1, hle1, hmx1, hg1, hs2, hn2, hle2, hmx2, hg2⟩⟩
set_option maxRecDepth 100000 in
theorem row_open {v : Value} {d : DataW H} {pl : List MemPlace} (hv : Value.okWide Try.prog w .any base 30 v) (h : DataW.Trod enc Try.prog w 0 spare held 30 v d pl) :
    ∃ x : RowO, v = .agg #[.slice x.p x.n x.cap, .slice x.pw x.nw x.capw, .slice x.q x.m x.capq] ∧ x.Reads w := by
  obtain ⟨cs, rfl, hsz⟩ := okWide_struct Try.underlying30 hv
  obtain ⟨fuel, hf⟩ := h
  obtain ⟨r, e, hr⟩ := rowO_open hf
  have e' : cs.toList = [.slice r.p r.n r.cap, .slice r.pw r.nw r.capw, .slice r.q r.m r.capq] := e
  exact ⟨r, by congr 1; exact Array.toList_inj.1 e', hr⟩
end
end Go.Proofs.Ytoljahfofkmdaaa
