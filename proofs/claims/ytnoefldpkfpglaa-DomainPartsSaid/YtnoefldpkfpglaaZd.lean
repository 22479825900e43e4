/- Texts of this proof, one behind the other. -/
import Derived.Test.YtnoefldpkfpglaaZb
import Derived.Test.YtnoefldpkfpglaaZc
import Derived.Test.YtnoefldpkfpglaaZa
import Derived.ProofKit
import Derived.Carry
import Derived.Deep.Slices
import Derived.Lib.SmallJoins
import Derived.Test.YtnoefldpkfpglaaProg
/-! The statement DomainParts, walked. -/
namespace Go.Proofs.Ytnoefldpkfpglaa
open Go Go.RowKit

set_option maxRecDepth 100000 in
theorem parts_d (p : Option Addr) (n cap : Nat) (ds : List Dom) (q : Option Addr) (m capv : Nat) (vs : List Vcp) (w : World)
 (hds : Sv w p ds) (hn : n = ds.length)
 (hvs : Sv w q vs) (hm : m = vs.length)
 : Calls Try.prog 3 #[.agg #[.slice p n cap, .slice q m capv]] w fun e w' => e = .returned (.bool true) ∧ Below w.heap.size w w' := by
 refine enter (Hs.start w) Try.func3 rfl Try.ntmps3 rfl (sq_ (ma0 [] [] (fun γ1 => [(1, .pointer (some ⟨γ1 0, 0, none⟩))]) (fun γ1 L => bx (γ1 0) (#[.slice p n cap, .slice q m capv]) 25 :: L) (fun γ1 => ds_ (sq_ (sq_ (ao_ (cD (.bool true) Try.call8 (fun w hw => wakes_d w) (qo0 1 [] [1] [(22, .bool false)] (on_ (ds_ (f_ (at_skip (ds_ (sq_ (sq_ (ao_ (qo0 1 [(0, .go (owns 0 0 2))] [1] [(23, .agg #[.slice p n cap, .slice q m capv])] ?_)))))))))))))))))
 rcases q5 : decide (100 < n ∨ 100 < m) with _ | _
 ·
  refine cD (.bool false) Try.call9 (fun w hw => by have := over_d p n cap ds q m capv vs w; rw [q5] at this; exact this) (qo0 2 [(3, .go (owns 0 0 2))] [1] [(25, .bool false), (26, .agg #[.slice p n cap, .slice q m capv])] ?_)
  rcases q7 : guestsB ds vs with _ | _
  ·
   refine cD (.int .i64 190) Try.call10 (fun w hw => by have ho_ := of_decide_eq_false q5; have := gcheck_d p n cap ds q m capv vs w (hds.kept hw.below) hn (by omega) (hvs.kept hw.below) hm (by omega); rw [q7] at this; exact this) (qo0 2 [] [1] [(29, .bool true)] (on_ (ds_ (t_ (sq_ (qa0 [] [] [(2, .bool true)] (ds_ (rt ([]) (.bool true) ?_))))))))
   exact fun w' hw => ⟨rfl, hw.below⟩
  ·
   refine cD (.int .i64 0) Try.call10 (fun w hw => by have ho_ := of_decide_eq_false q5; have := gcheck_d p n cap ds q m capv vs w (hds.kept hw.below) hn (by omega) (hvs.kept hw.below) hm (by omega); rw [q7] at this; exact this) (qo0 2 [] [1] [(29, .bool false)] (on_ (ds_ (f_ (at_skip (ds_ (sq_ ?_)))))))
   have hgd := q7
   have hG := guests_iff.1 hgd
   have hdl := hG.dl
   have hvl := hG.vl
   refine ma0 [] [1] (fun γ11 => [(3, .map (some (γ11 0))), (4, .map (some (γ11 1)))]) (fun γ11 L => (γ11 1, .map #[] 0) :: (γ11 0, .map #[] 0) :: L) (fun γ11 => ds_ (sq_ (qa0 [] [1, 3, 4] [(5, .int .i64 0)] (ds_ (sq_ (sq_ (qa0 [(1, .go (owns 2 0 1))] [1, 3, 4, 5] [(33, .slice p n cap), (34, .int .i64 ((n : Nat))), (35, .int .i64 0)] (ds_ (at_block (at_loop (α := Nat × Int × List (Int × Int) × Array MapEntry × Nat) [1, 3, 4, 5, 33, 34, 35] (fun ⟨j, cw, Da, esa, cka⟩ => [(1, .pointer (some ⟨γ1 0, 0, none⟩)), (3, .map (some (γ11 0))), (4, .map (some (γ11 1))), (5, .int .i64 cw), (33, .slice p n cap), (34, .int .i64 ((n : Nat))), (35, .int .i64 ((j : Nat)))]) (fun ⟨j, cw, Da, esa, cka⟩ => [(γ11 1, .map #[] 0), (γ11 0, .map esa cka), bx (γ1 0) (#[.slice p n cap, .slice q m capv]) 25]) (fun ⟨j, cw, Da, esa, cka⟩ => j ≤ n ∧ MapIs .i64 (Value.int .i64) esa Da ∧ Da = bumpL (ofP vs (ds.take j)) ∧ cw = dwL vs (ds.take j) ∧ 0 ≤ cw ∧ cw ≤ 65535 * (j : Int)) (fun ⟨j, cw, Da, esa, cka⟩ => n - j) (0, 0, [], #[], 0) (by kernel_rfl) rfl ⟨Nat.zero_le _, (MapIs.nil (ik := .i64) (enc := (Value.int .i64))), rfl, by simp [dwL], by omega, by omega⟩ ?_))))))))))
   rintro ⟨j, cw, Da, esa, cka⟩
   rintro ⟨hj, hMa, hDa, hcw, hc0, hc1⟩
   refine sq_ ?_
   by_cases q15 : ((j : Nat) : Int) < ((n : Nat) : Int)
   ·
    refine qa [(0, .yes)] [1, 3, 4, 5, 33, 34, 35] [(36, .bool true)] ([((j : Nat) : Int) < ((n : Nat) : Int)]) (al1 q15) (ds_ (sq_ (t_ (at_skip (ds_ (sq_ (at_block (sq_ ?_))))))))
    obtain ⟨b18, o18, rfl⟩ := hds.pos (i := j) (by omega)
    obtain ⟨x20, hx20⟩ := get_some (l := ds) (m := j) (by omega)
    refine ma [(0, .at b18 o18 j), (1, .go (outs b18 (o18 + j * 4) [.int .i64 x20.id, .int .i64 x20.weight, .int .i64 x20.cap, .int .i64 x20.pool])), (3, .go (owns 0 0 4))] [1, 3, 4, 5, 33, 34, 35] (fun γ21 => [(7, .pointer (some ⟨γ21 0, 0, none⟩))]) (fun γ21 L => bx (γ21 0) (#[.int .i64 x20.id, .int .i64 x20.weight, .int .i64 x20.cap, .int .i64 x20.pool]) 32 :: L) (fun γ21 => [(some ⟨b18, o18, none⟩ : Option Addr) = some ⟨b18, o18, none⟩, ((j : Nat)) = ((j : Nat) : Int), j < n] ++ (cellsP w b18 (o18 + j * 4) [.int .i64 x20.id, .int .i64 x20.weight, .int .i64 x20.cap, .int .i64 x20.pool])) (fun γ21 => (alA (al2 rfl (al2 rfl (al1 (by omega)))) (rd_pre (hds.get hx20) _ rfl))) (fun γ21 => ds_ (sq_ ?_))
    have hmd := hG.dm x20 (List.mem_of_getElem? hx20)
    have hwd := may_w hmd.1
    refine ao_ (qo0 3 [(0, .go (owns 3 0 2)), (2, .go (owns 0 0 1))] [1, 3, 4, 5, 7, 33, 34, 35] [(39, .agg #[.slice (some ⟨b18, o18, none⟩) n cap, .slice q m capv]), (41, .int .i64 x20.id)] (cP (fun v L' => ∃ q_ c_ Y_, v = .slice q_ (cntV vs x20.id) c_ ∧ L' = List.take 4 ([bx (γ21 0) (#[.int .i64 x20.id, .int .i64 x20.weight, .int .i64 x20.cap, .int .i64 x20.pool]) 32, (γ11 1, .map #[] 0), (γ11 0, .map esa cka), bx (γ1 0) (#[.slice (some ⟨b18, o18, none⟩) n cap, .slice q m capv]) 25]) ++ (Y_ ++ List.drop 4 ([bx (γ21 0) (#[.int .i64 x20.id, .int .i64 x20.weight, .int .i64 x20.cap, .int .i64 x20.pool]) 32, (γ11 1, .map #[] 0), (γ11 0, .map esa cka), bx (γ1 0) (#[.slice (some ⟨b18, o18, none⟩) n cap, .slice q m capv]) 25])) ∧ SlO 3 Y_ q_ (cntV vs x20.id) c_ (ofV vs x20.id)) Try.call11 (fun w hw => by have := of_d (some ⟨b18, o18, none⟩) n cap ds q m capv vs x20.id w (hds.kept hw.below) hn (by omega) (hvs.kept hw.below) hm (by omega); rw [lG_ok hgd] at this; exact this.mono fun e w' ⟨q_, m_, c_, Y_, he, hO, hm, hb, hY⟩ => by have hl := hO.len.trans ofV_len; subst hl; exact ⟨_, _, he, ⟨q_, c_, Y_, rfl, rfl, hO⟩, hw.join hb hY 4⟩) ?_))
    rintro v23 L23 ⟨q23, cq23, Y23, rfl, rfl, hO23⟩
    refine qo0 1 [] [1, 3, 4, 5, 7, 33, 34, 35] [(8, .slice q23 (cntV vs x20.id) cq23)] (on_ (ds_ (sq_ (qa0 [] [1, 3, 4, 5, 7, 8, 33, 34, 35] [(9, .int .i64 0)] (ds_ (sq_ (sq_ (qa0 [] [1, 3, 4, 5, 7, 8, 9, 33, 34, 35] [(43, .slice q23 (cntV vs x20.id) cq23), (44, .int .i64 ((cntV vs x20.id : Nat))), (45, .int .i64 0)] (ds_ (at_block (at_loop (α := Nat × Int × List (Int × Int) × Array MapEntry × Nat) [1, 3, 4, 5, 7, 8, 9, 33, 34, 35, 43, 44, 45] (fun ⟨qq, sm, Db, esb, ckb⟩ => [(1, .pointer (some ⟨γ1 0, 0, none⟩)), (3, .map (some (γ11 0))), (4, .map (some (γ11 1))), (5, .int .i64 cw), (7, .pointer (some ⟨γ21 0, 0, none⟩)), (8, .slice q23 (cntV vs x20.id) cq23), (9, .int .i64 sm), (33, .slice (some ⟨b18, o18, none⟩) n cap), (34, .int .i64 ((n : Nat))), (35, .int .i64 ((j : Nat))), (43, .slice q23 (cntV vs x20.id) cq23), (44, .int .i64 ((cntV vs x20.id : Nat))), (45, .int .i64 ((qq : Nat)))]) (fun ⟨qq, sm, Db, esb, ckb⟩ => bx (γ21 0) (#[.int .i64 x20.id, .int .i64 x20.weight, .int .i64 x20.cap, .int .i64 x20.pool]) 32 :: (γ11 1, .map #[] 0) :: (γ11 0, .map esb ckb) :: bx (γ1 0) (#[.slice (some ⟨b18, o18, none⟩) n cap, .slice q m capv]) 25 :: (Y23 ++ [])) (fun ⟨qq, sm, Db, esb, ckb⟩ => qq ≤ cntV vs x20.id ∧ MapIs .i64 (Value.int .i64) esb Db ∧ Db = bumpL (ofP vs (ds.take j) ++ (ofV vs x20.id).take qq) ∧ sm = x20.weight * (qq : Int) ∧ 0 ≤ sm ∧ sm ≤ 65535 * (qq : Int)) (fun ⟨qq, sm, Db, esb, ckb⟩ => cntV vs x20.id - qq) (0, 0, Da, esa, cka) (by kernel_rfl) rfl ⟨Nat.zero_le _, hMa, by rw [hDa]; simp, by simp, by omega, by omega⟩ ?_)))))))))))
    rintro ⟨qq, sm, Db, esb, ckb⟩
    rintro ⟨hqq, hMb, hDb, hsm, hs0, hs1⟩
    refine sq_ ?_
    by_cases q28 : ((qq : Nat) : Int) < ((cntV vs x20.id : Nat) : Int)
    ·
     refine qa [(0, .yes)] [1, 3, 4, 5, 7, 8, 9, 33, 34, 35, 43, 44, 45] [(46, .bool true)] ([((qq : Nat) : Int) < ((cntV vs x20.id : Nat) : Int)]) (al1 q28) (ds_ (sq_ (t_ (at_skip (ds_ (sq_ (at_block (sq_ ?_))))))))
     have hol := ofV_len (vs := vs) (k := x20.id)
     have hln31 := hO23.len
     obtain ⟨g31, cs31, rfl, rfl, hOw31⟩ := hO23.rowOf (i := qq) (by omega)
     obtain ⟨x33, hx33⟩ := get_some (l := (ofV vs x20.id)) (m := qq) (by omega)
     refine qa [(0, .at g31 0 qq), (1, .go (ownps 4 (0 + qq * 1) [.int .i64 x33]))] [1, 3, 4, 5, 7, 8, 9, 33, 34, 35, 43, 44, 45] [(11, .int .i64 x33)] ([(some ⟨g31, 0, none⟩ : Option Addr) = some ⟨g31, 0, none⟩, ((qq : Nat)) = ((qq : Nat) : Int), qq < cntV vs x20.id] ++ (acellsP cs31 (0 + qq * 1) [.int .i64 x33])) (alA (al2 rfl (al2 rfl (al1 (by omega)))) (rda_pre ((hOw31.rdx hO23.len hx33)) _ rfl)) (ds_ (sq_ ?_))
     have hz : (mget Db x33).getD 0 = 0 := by rw [hDb]; exact of_new hG hx20 hx33
     refine ao_ (qo0 2 [] [1, 3, 4, 5, 7, 8, 9, 11, 33, 34, 35, 43, 44, 45] [(49, .map (some (γ11 0))), (50, .int .i64 x33)] (ops_lookup (ik := .i64) (enc := (Value.int .i64)) (kk := x33) 2 ((Value.int .i64) 0) (.int .i64 ((mget Db x33).getD 0)) rfl (by kernel_rfl) (by kernel_rfl) (by kernel_rfl) (by kernel_rfl) (⟨3, 3, by kernel_rfl, by kernel_rfl, by kernel_rfl⟩ : mapB Try.prog 30 .i64 ((Value.int .i64) 0)) rfl hMb (map_getD _ _ _) (qo 1 [(3, .fit)] [1, 3, 4, 5, 7, 8, 9, 11, 33, 34, 35, 43, 44, 45, 49, 50] [(52, .int .i64 (((mget Db x33).getD 0) + 1))] ([Fit .i64 (((mget Db x33).getD 0) + 1)]) (al1 (fit64 (by omega) (by omega))) (ops_update (ik := .i64) (enc := (Value.int .i64)) (kk := x33) 2 (((mget Db x33).getD 0) + 1) ((Value.int .i64) 0) rfl (by kernel_rfl) (by kernel_rfl) (by kernel_rfl) (by kernel_rfl) (by kernel_rfl) (⟨3, 3, by kernel_rfl, by kernel_rfl, by kernel_rfl⟩ : mapB Try.prog 30 .i64 ((Value.int .i64) 0)) rfl hMb (fun es37 ck37 hM37 => on_ (ds_ (sq_ (ao_ (qo0 2 [(0, .go (owns 3 0 2))] [1, 3, 4, 5, 7, 8, 9, 33, 34, 35, 43, 44, 45] [(54, .agg #[.slice (some ⟨b18, o18, none⟩) n cap, .slice q m capv]), (55, .int .i64 x33)] (cD (.tuple #[.int .i64 x20.weight, .int .i64 ((cntV vs x20.id : Nat)), .bool true]) Try.call12 (fun w hw => by have := rate_d (some ⟨b18, o18, none⟩) n cap ds q m capv vs x33 w (hds.kept hw.below) hn (by omega) (hvs.kept hw.below) hm (by omega); rw [rate_of hgd (List.mem_of_getElem? hx20) (List.mem_of_getElem? hx33)] at this; exact this) (qo0 7 [] [1, 3, 4, 5, 7, 8, 9, 33, 34, 35, 43, 44, 45] [(12, .int .i64 x20.weight), (13, .int .i64 ((cntV vs x20.id : Nat))), (14, .bool true)] (on_ (ds_ (sq_ (sq_ (qa [(5, .go (owns 0 1 1)), (6, .no), (12, .no)] [1, 3, 4, 5, 7, 8, 9, 12, 33, 34, 35, 43, 44, 45] [(73, .bool false)] ([¬ ((x20.weight : Int) ≠ (x20.weight : Int))] ++ ([¬ (((cntV vs x20.id : Nat) : Int) ≠ ((cntV vs x20.id : Nat) : Int))])) (alA (al1 ((fun h => h rfl))) (al1 ((fun h => h rfl)))) (ds_ (f_ (at_skip (ds_ (qa [(2, .fit)] [1, 3, 4, 5, 7, 8, 33, 34, 35, 43, 44, 45] [(9, .int .i64 (sm + x20.weight))] ([Fit .i64 (sm + x20.weight)]) (al1 (fit64 (by omega) (by omega))) (done_block (ds_ (qa [(0, .fit)] [1, 3, 4, 5, 7, 8, 9, 33, 34, 35, 43, 44] [(45, .int .i64 ((qq + 1 : Nat)))] ([Fit .i64 ((qq + 1 : Nat))]) (al1 (fit64 (by omega) (by omega))) ?_))))))))))))))))))))))))
     exact dr [1, 3, 4, 5, 7, 8, 9, 33, 34, 35, 43, 44, 45] (qq + 1, sm + x20.weight, (mupd Db x33 (((mget Db x33).getD 0) + 1)), es37, ck37) ⟨by omega, hM37, bump_next hDb hx33, by rw [Int.natCast_add, Int.mul_add, hsm]; omega, by omega, by omega⟩
    ·
     refine qa [(0, .no)] [1, 3, 4, 5, 7, 8, 9, 33, 34, 35, 43, 44, 45] [(46, .bool false)] ([¬ (((qq : Nat) : Int) < ((cntV vs x20.id : Nat) : Int))]) (al1 q28) (ds_ (sq_ (f_ (at_leave _ rfl (ds_ (sq_ ?_))))))
     have hqe : qq = cntV vs x20.id := by omega
     rw [hqe] at hsm
     have hmb2 := mul_bnd hwd (b := (cntV vs x20.id : Int)) (by omega)
     by_cases q46 : ((cntV vs x20.id : Nat) : Int) > (0 : Int)
     ·
      refine qa [(2, .yes)] [1, 3, 4, 5, 7, 8, 9, 33, 34, 35] [(80, .bool true)] ([((cntV vs x20.id : Nat) : Int) > (0 : Int)]) (al1 q46) (ds_ (t_ (sq_ (sq_ (qa [(2, .go (owns 0 1 1)), (5, .fit), (6, .no)] [1, 3, 4, 5, 7, 33, 34, 35] [(87, .bool false)] ([Fit .i64 (x20.weight * ((cntV vs x20.id : Nat)))] ++ ([¬ ((sm : Int) ≠ (x20.weight * ((cntV vs x20.id : Nat)) : Int))])) (alA (al1 (fit64 (by omega) (by omega))) (al1 ((by omega)))) (ds_ (f_ (at_skip (ds_ (qa [(2, .go (owns 0 1 1)), (3, .fit)] [1, 3, 4, 33, 34, 35] [(5, .int .i64 (cw + x20.weight))] ([Fit .i64 (cw + x20.weight)]) (al1 (fit64 (by omega) (by omega))) (done_block (ds_ (qa [(0, .fit)] [1, 3, 4, 5, 33, 34] [(35, .int .i64 ((j + 1 : Nat)))] ([Fit .i64 ((j + 1 : Nat))]) (al1 (fit64 (by omega) (by omega))) (Done.drop (L' := [(γ11 1, .map #[] 0), (γ11 0, .map esb ckb), bx (γ1 0) (#[.slice (some ⟨b18, o18, none⟩) n cap, .slice q m capv]) 25]) ?_ (List.Sublist.cons _ (List.Sublist.cons_cons _ (List.Sublist.cons_cons _ (List.Sublist.cons_cons _ (List.sublist_append_right _ _)))))))))))))))))))
      exact dr [1, 3, 4, 5, 33, 34, 35] (j + 1, cw + x20.weight, Db, esb, ckb) ⟨by omega, hMb, by rw [hDb, ofP_on hx20, List.take_of_length_le (l := ofV vs x20.id) (by rw [ofV_len]; omega)], by rw [dw_on hx20, ← hcw, dw_yes q46], by omega, by omega⟩
     ·
      refine qa [(2, .no)] [1, 3, 4, 5, 7, 8, 9, 33, 34, 35] [(80, .bool false)] ([¬ (((cntV vs x20.id : Nat) : Int) > (0 : Int))]) (al1 q46) (ds_ (f_ (at_skip (done_block (ds_ (qa [(0, .fit)] [1, 3, 4, 5, 33, 34] [(35, .int .i64 ((j + 1 : Nat)))] ([Fit .i64 ((j + 1 : Nat))]) (al1 (fit64 (by omega) (by omega))) (Done.drop (L' := [(γ11 1, .map #[] 0), (γ11 0, .map esb ckb), bx (γ1 0) (#[.slice (some ⟨b18, o18, none⟩) n cap, .slice q m capv]) 25]) ?_ (List.Sublist.cons _ (List.Sublist.cons_cons _ (List.Sublist.cons_cons _ (List.Sublist.cons_cons _ (List.sublist_append_right _ _))))))))))))
      exact dr [1, 3, 4, 5, 33, 34, 35] (j + 1, cw, Db, esb, ckb) ⟨by omega, hMb, by rw [hDb, ofP_on hx20, List.take_of_length_le (l := ofV vs x20.id) (by rw [ofV_len]; omega)], by rw [dw_on hx20, ← hcw, dw_no q46]; omega, by omega, by omega⟩
   ·
    refine qa [(0, .no)] [1, 3, 4, 5, 33, 34, 35] [(36, .bool false)] ([¬ (((j : Nat) : Int) < ((n : Nat) : Int))]) (al1 q15) (ds_ (sq_ (f_ (at_leave _ rfl (ds_ (sq_ (qa0 [] [1, 3, 4, 5] [(15, .int .i64 0)] (ds_ (sq_ (sq_ (qa0 [] [1, 3, 4, 5, 15] [(93, .int .i64 0)] (ds_ (at_block ?_)))))))))))))
    rw [List.take_of_length_le (by omega)] at hDa hcw
    have hof := fun (v : Vcp) (hv : v ∈ vs) => of_one hG hv
    rw [← hDa] at hof
    have hofl := of_all hG
    rw [← hDa] at hofl
    refine at_loop (α := Nat × Int × List (Int × Int) × Array MapEntry × Nat) [1, 3, 4, 5, 15, 93] (fun ⟨pl, al, Dc, esc, ckc⟩ => [(1, .pointer (some ⟨γ1 0, 0, none⟩)), (3, .map (some (γ11 0))), (4, .map (some (γ11 1))), (5, .int .i64 cw), (15, .int .i64 al), (93, .int .i64 ((pl : Nat)))]) (fun ⟨pl, al, Dc, esc, ckc⟩ => [(γ11 1, .map esc ckc), (γ11 0, .map esa cka), bx (γ1 0) (#[.slice p n cap, .slice q m capv]) 25]) (fun ⟨pl, al, Dc, esc, ckc⟩ => pl ≤ 4 ∧ MapIs .i64 (Value.int .i64) esc Dc ∧ Dc = bumpL (inP ds vs pl) ∧ al = wsP ds vs pl ∧ 0 ≤ al ∧ al ≤ 524280 * (pl : Int)) (fun ⟨pl, al, Dc, esc, ckc⟩ => 4 - pl) (0, 0, [], #[], 0) (by kernel_rfl) rfl ⟨Nat.zero_le _, (MapIs.nil (ik := .i64) (enc := (Value.int .i64))), rfl, rfl, by omega, by omega⟩ ?_
    rintro ⟨pl, al, Dc, esc, ckc⟩
    rintro ⟨hpl, hMc, hDc, hal, ha0, ha1⟩
    have hwg := wgt_good (k := ((pl : Nat) : Int)) hG
    have hinb := inV_le (ds := ds) (vs := vs) (k := ((pl : Nat) : Int))
    refine sq_ ?_
    by_cases q57 : ((pl : Nat) : Int) < (4 : Int)
    ·
     refine qa [(0, .yes)] [1, 3, 4, 5, 15, 93] [(94, .bool true)] ([((pl : Nat) : Int) < (4 : Int)]) (al1 q57) (ds_ (sq_ (t_ (at_skip (ds_ (sq_ (at_block (sq_ (qa0 [] [1, 3, 4, 5, 15, 93] [(16, .int .i64 ((pl : Nat)))] (ds_ (sq_ (sq_ (ao_ (qo0 2 [(0, .go (owns 2 0 2))] [1, 3, 4, 5, 15, 16, 93] [(96, .agg #[.slice p n cap, .slice q m capv]), (97, .int .i64 ((pl : Nat)))] (cP (fun v L' => ∃ q_ c_ Y_, v = .slice q_ ((inV ds vs ((pl : Nat))).length) c_ ∧ L' = List.take 3 ([(γ11 1, .map esc ckc), (γ11 0, .map esa cka), bx (γ1 0) (#[.slice p n cap, .slice q m capv]) 25]) ++ (Y_ ++ List.drop 3 ([(γ11 1, .map esc ckc), (γ11 0, .map esa cka), bx (γ1 0) (#[.slice p n cap, .slice q m capv]) 25])) ∧ SlO 3 Y_ q_ ((inV ds vs ((pl : Nat))).length) c_ (inV ds vs ((pl : Nat)))) Try.call13 (fun w hw => by have := in_d p n cap ds q m capv vs ((pl : Nat)) w (hds.kept hw.below) hn (by omega) (hvs.kept hw.below) hm (by omega); rw [lG_ok hgd] at this; exact this.mono fun e w' ⟨q_, m_, c_, Y_, he, hO, hm, hb, hY⟩ => by have hl := hO.len; subst hl; exact ⟨_, _, he, ⟨q_, c_, Y_, rfl, rfl, hO⟩, hw.join hb hY 3⟩) ?_)))))))))))))))
     rintro v61 L61 ⟨q61, cq61, Y61, rfl, rfl, hO61⟩
     refine qo0 2 [] [1, 3, 4, 5, 15, 16, 93, 98] [(99, .int .i64 (((inV ds vs ((pl : Nat))).length : Nat))), (100, .int .i64 0)] (on_ (ds_ (at_block (at_loop (α := Nat × List (Int × Int) × Array MapEntry × Nat) [1, 3, 4, 5, 15, 16, 93, 98, 99, 100] (fun ⟨rr, Dd, esd, ckd⟩ => [(1, .pointer (some ⟨γ1 0, 0, none⟩)), (3, .map (some (γ11 0))), (4, .map (some (γ11 1))), (5, .int .i64 cw), (15, .int .i64 al), (16, .int .i64 ((pl : Nat))), (93, .int .i64 ((pl : Nat))), (98, .slice q61 ((inV ds vs ((pl : Nat))).length) cq61), (99, .int .i64 (((inV ds vs ((pl : Nat))).length : Nat))), (100, .int .i64 ((rr : Nat)))]) (fun ⟨rr, Dd, esd, ckd⟩ => (γ11 1, .map esd ckd) :: (γ11 0, .map esa cka) :: bx (γ1 0) (#[.slice p n cap, .slice q m capv]) 25 :: (Y61 ++ [])) (fun ⟨rr, Dd, esd, ckd⟩ => rr ≤ (inV ds vs ((pl : Nat))).length ∧ MapIs .i64 (Value.int .i64) esd Dd ∧ Dd = bumpL (inP ds vs pl ++ (inV ds vs ((pl : Nat))).take rr)) (fun ⟨rr, Dd, esd, ckd⟩ => (inV ds vs ((pl : Nat))).length - rr) (0, Dc, esc, ckc) (by kernel_rfl) rfl ⟨Nat.zero_le _, hMc, by rw [hDc]; simp⟩ ?_))))
     rintro ⟨rr, Dd, esd, ckd⟩
     rintro ⟨hrr, hMd, hDd⟩
     refine sq_ ?_
     by_cases q64 : ((rr : Nat) : Int) < (((inV ds vs ((pl : Nat))).length : Nat) : Int)
     ·
      refine qa [(0, .yes)] [1, 3, 4, 5, 15, 16, 93, 98, 99, 100] [(101, .bool true)] ([((rr : Nat) : Int) < (((inV ds vs ((pl : Nat))).length : Nat) : Int)]) (al1 q64) (ds_ (sq_ (t_ (at_skip (ds_ (sq_ (at_block (sq_ ?_))))))))
      have hln67 := hO61.len
      obtain ⟨g67, cs67, rfl, rfl, hOw67⟩ := hO61.rowOf (i := rr) (by omega)
      obtain ⟨x69, hx69⟩ := get_some (l := (inV ds vs ((pl : Nat)))) (m := rr) (by omega)
      refine qa [(0, .at g67 0 rr), (1, .go (ownps 3 (0 + rr * 1) [.int .i64 x69]))] [1, 3, 4, 5, 15, 16, 93, 98, 99, 100] [(18, .int .i64 x69)] ([(some ⟨g67, 0, none⟩ : Option Addr) = some ⟨g67, 0, none⟩, ((rr : Nat)) = ((rr : Nat) : Int), rr < (inV ds vs ((pl : Nat))).length] ++ (acellsP cs67 (0 + rr * 1) [.int .i64 x69])) (alA (al2 rfl (al2 rfl (al1 (by omega)))) (rda_pre ((hOw67.rdx hO61.len hx69)) _ rfl)) (ds_ ?_)
      have hz2 : (mget Dd x69).getD 0 = 0 := by rw [hDd]; exact in_new hG hx69
      refine ao_ (qo0 2 [] [1, 3, 4, 5, 15, 16, 93, 98, 99, 100] [(104, .map (some (γ11 1))), (105, .int .i64 x69)] (ops_lookup (ik := .i64) (enc := (Value.int .i64)) (kk := x69) 0 ((Value.int .i64) 0) (.int .i64 ((mget Dd x69).getD 0)) rfl (by kernel_rfl) (by kernel_rfl) (by kernel_rfl) (by kernel_rfl) (⟨3, 3, by kernel_rfl, by kernel_rfl, by kernel_rfl⟩ : mapB Try.prog 30 .i64 ((Value.int .i64) 0)) rfl hMd (map_getD _ _ _) (qo 1 [(3, .fit)] [1, 3, 4, 5, 15, 16, 93, 98, 99, 100, 104, 105] [(107, .int .i64 (((mget Dd x69).getD 0) + 1))] ([Fit .i64 (((mget Dd x69).getD 0) + 1)]) (al1 (fit64 (by omega) (by omega))) (ops_update (ik := .i64) (enc := (Value.int .i64)) (kk := x69) 0 (((mget Dd x69).getD 0) + 1) ((Value.int .i64) 0) rfl (by kernel_rfl) (by kernel_rfl) (by kernel_rfl) (by kernel_rfl) (by kernel_rfl) (⟨3, 3, by kernel_rfl, by kernel_rfl, by kernel_rfl⟩ : mapB Try.prog 30 .i64 ((Value.int .i64) 0)) rfl hMd (fun es73 ck73 hM73 => on_ (done_block (ds_ (qa [(0, .fit)] [1, 3, 4, 5, 15, 16, 93, 98, 99] [(100, .int .i64 ((rr + 1 : Nat)))] ([Fit .i64 ((rr + 1 : Nat))]) (al1 (fit64 (by omega) (by omega))) ?_))))))))
      exact dr [1, 3, 4, 5, 15, 16, 93, 98, 99, 100] (rr + 1, (mupd Dd x69 (((mget Dd x69).getD 0) + 1)), es73, ck73) ⟨by omega, hM73, bump_next hDd hx69⟩
     ·
      refine qa [(0, .no)] [1, 3, 4, 5, 15, 16, 93, 98, 99, 100] [(101, .bool false)] ([¬ (((rr : Nat) : Int) < (((inV ds vs ((pl : Nat))).length : Nat) : Int))]) (al1 q64) (ds_ (sq_ (f_ (at_leave _ rfl (ds_ (ao_ (qo0 3 [(1, .go (owns 2 0 2))] [1, 3, 4, 5, 93] [(109, .int .i64 al), (110, .agg #[.slice p n cap, .slice q m capv]), (111, .int .i64 ((pl : Nat)))] (cD (.int .i64 (wgtV ds vs ((pl : Nat)))) Try.call14 (fun w hw => by have := weights_d p n cap ds q m capv vs ((pl : Nat)) w (hds.kept hw.below) hn (by omega) (hvs.kept hw.below) hm (by omega); rw [if_pos hgd] at this; exact this) (qo 2 [(4, .fit)] [1, 3, 4, 5, 93] [(15, .int .i64 (al + (wgtV ds vs ((pl : Nat)))))] ([Fit .i64 (al + (wgtV ds vs ((pl : Nat))))]) (al1 (fit64 (by omega) (by omega))) (on_ (done_block (ds_ (qa [(0, .fit)] [1, 3, 4, 5, 15] [(93, .int .i64 ((pl + 1 : Nat)))] ([Fit .i64 ((pl + 1 : Nat))]) (al1 (fit64 (by omega) (by omega))) (Done.drop (L' := [(γ11 1, .map esd ckd), (γ11 0, .map esa cka), bx (γ1 0) (#[.slice p n cap, .slice q m capv]) 25]) ?_ (List.Sublist.cons_cons _ (List.Sublist.cons_cons _ (List.Sublist.cons_cons _ (List.sublist_append_right _ _))))))))))))))))))
      exact dr [1, 3, 4, 5, 15, 93] (pl + 1, al + (wgtV ds vs ((pl : Nat))), Dd, esd, ckd) ⟨by omega, hMd, by rw [hDd, inP_on, List.take_of_length_le (by omega)], by rw [hal]; rfl, by omega, by omega⟩
    ·
     refine qa [(0, .no)] [1, 3, 4, 5, 15, 93] [(94, .bool false)] ([¬ (((pl : Nat) : Int) < (4 : Int))]) (al1 q57) (ds_ (sq_ (f_ (at_leave _ rfl (ds_ (sq_ (sq_ ?_)))))))
     have e4 : pl = 4 := by omega
     rw [e4] at hDc hal
     have hin := fun (v : Vcp) (hv : v ∈ vs) => in_one hG hv
     rw [← hDc] at hin
     have hinl := in_all hG
     rw [← hDc] at hinl
     have hws := ws_is (vs := vs) ds fun d hd => (hG.dm d hd).1
     rw [← hal, ← hcw] at hws
     refine qa0 [(1, .go (owns 2 1 1))] [1, 3, 4, 5, 15] [(116, .slice q m capv), (117, .int .i64 ((m : Nat))), (118, .int .i64 0)] (ds_ (at_block (at_loop (α := Nat) [1, 3, 4, 5, 15, 116, 117, 118] (fun i4 => [(1, .pointer (some ⟨γ1 0, 0, none⟩)), (3, .map (some (γ11 0))), (4, .map (some (γ11 1))), (5, .int .i64 cw), (15, .int .i64 al), (116, .slice q m capv), (117, .int .i64 ((m : Nat))), (118, .int .i64 ((i4 : Nat)))]) (fun i4 => [(γ11 1, .map esc ckc), (γ11 0, .map esa cka), bx (γ1 0) (#[.slice p n cap, .slice q m capv]) 25]) (fun i4 => i4 ≤ m) (fun i4 => m - i4) 0 (by kernel_rfl) rfl (Nat.zero_le _) ?_)))
     rintro i4
     rintro hi4
     refine sq_ ?_
     by_cases q83 : ((i4 : Nat) : Int) < ((m : Nat) : Int)
     ·
      refine qa [(0, .yes)] [1, 3, 4, 5, 15, 116, 117, 118] [(119, .bool true)] ([((i4 : Nat) : Int) < ((m : Nat) : Int)]) (al1 q83) (ds_ (sq_ (t_ (at_skip (ds_ (sq_ (at_block (sq_ ?_))))))))
      obtain ⟨b86, o86, rfl⟩ := hvs.pos (i := i4) (by omega)
      obtain ⟨x88, hx88⟩ := get_some (l := vs) (m := i4) (by omega)
      refine ma [(0, .at b86 o86 i4), (1, .go (outs b86 (o86 + i4 * 4) [.int .i64 x88.id, .int .i64 x88.dom, .int .u32 x88.hard, .int .u32 x88.soft])), (3, .go (owns 0 0 4))] [1, 3, 4, 5, 15, 116, 117, 118] (fun γ89 => [(20, .pointer (some ⟨γ89 0, 0, none⟩))]) (fun γ89 L => bx (γ89 0) (#[.int .i64 x88.id, .int .i64 x88.dom, .int .u32 x88.hard, .int .u32 x88.soft]) 43 :: L) (fun γ89 => [(some ⟨b86, o86, none⟩ : Option Addr) = some ⟨b86, o86, none⟩, ((i4 : Nat)) = ((i4 : Nat) : Int), i4 < m] ++ (cellsP w b86 (o86 + i4 * 4) [.int .i64 x88.id, .int .i64 x88.dom, .int .u32 x88.hard, .int .u32 x88.soft])) (fun γ89 => (alA (al2 rfl (al2 rfl (al1 (by omega)))) (rd_pre (hvs.get hx88) _ rfl))) (fun γ89 => ds_ (sq_ ?_))
      have hg1 := hof x88 (List.mem_of_getElem? hx88)
      have hg2 := hin x88 (List.mem_of_getElem? hx88)
      refine ao_ (qo0 3 [(2, .go (owns 0 0 1))] [1, 3, 4, 5, 15, 20, 116, 117, 118] [(122, .map (some (γ11 0))), (124, .int .i64 x88.id)] (ops_lookup (ik := .i64) (enc := (Value.int .i64)) (kk := x88.id) 2 ((Value.int .i64) 0) (.int .i64 ((mget Da x88.id).getD 0)) rfl (by kernel_rfl) (by kernel_rfl) (by kernel_rfl) (by kernel_rfl) (⟨3, 3, by kernel_rfl, by kernel_rfl, by kernel_rfl⟩ : mapB Try.prog 30 .i64 ((Value.int .i64) 0)) rfl hMa (map_getD _ _ _) (qo 5 [(4, .no), (8, .go (owns 0 0 1))] [1, 3, 4, 5, 15, 116, 117, 118] [(127, .bool false), (128, .map (some (γ11 1))), (130, .int .i64 x88.id)] ([¬ (((mget Da x88.id).getD 0 : Int) ≠ (1 : Int))]) (al1 ((by omega))) (ops_lookup (ik := .i64) (enc := (Value.int .i64)) (kk := x88.id) 1 ((Value.int .i64) 0) (.int .i64 ((mget Dc x88.id).getD 0)) rfl (by kernel_rfl) (by kernel_rfl) (by kernel_rfl) (by kernel_rfl) (⟨3, 3, by kernel_rfl, by kernel_rfl, by kernel_rfl⟩ : mapB Try.prog 30 .i64 ((Value.int .i64) 0)) rfl hMc (map_getD _ _ _) (qo 2 [(10, .no)] [1, 3, 4, 5, 15, 116, 117, 118] [(133, .bool false)] ([¬ (((mget Dc x88.id).getD 0 : Int) ≠ (1 : Int))]) (al1 ((by omega))) (on_ (ds_ (f_ (at_skip (done_block (ds_ (qa [(0, .fit)] [1, 3, 4, 5, 15, 116, 117] [(118, .int .i64 ((i4 + 1 : Nat)))] ([Fit .i64 ((i4 + 1 : Nat))]) (al1 (fit64 (by omega) (by omega))) (Done.drop (L' := [(γ11 1, .map esc ckc), (γ11 0, .map esa cka), bx (γ1 0) (#[.slice p n cap, .slice (some ⟨b86, o86, none⟩) m capv]) 25]) ?_ (List.Sublist.cons _ (List.Sublist.cons_cons _ (List.Sublist.cons_cons _ (List.Sublist.cons_cons _ (List.Sublist.refl _))))))))))))))))))
      exact done_round [1, 3, 4, 5, 15, 116, 117, 118] (i4 + 1) (by kernel_rfl) rfl (by omega) (by first | omega | (simp only; omega))
     ·
      refine qa [(0, .no)] [1, 3, 4, 5, 15, 116, 117, 118] [(119, .bool false)] ([¬ (((i4 : Nat) : Int) < ((m : Nat) : Int))]) (al1 q83) (ds_ (sq_ (f_ (at_leave _ rfl (ds_ (sq_ ?_))))))
      by_cases q96 : (((Da).length : Nat) : Int) = ((m : Nat) : Int)
      ·
       by_cases q98 : (((Dc).length : Nat) : Int) = ((m : Nat) : Int)
       ·
        refine ao_ (qo 14 [(1, .is [.obj 1] (.int .i64 (((Da).length : Nat)))), (3, .go (owns 2 1 1)), (5, .yes), (8, .is [.obj 0] (.int .i64 (((Dc).length : Nat)))), (10, .go (owns 2 1 1)), (12, .yes)] [5, 15] [(148, .bool true)] ([Value.int .i64 (esa).size = .int .i64 (((Da).length : Nat))] ++ ([(((Da).length : Nat) : Int) = ((m : Nat) : Int)] ++ ([Value.int .i64 (esc).size = .int .i64 (((Dc).length : Nat))] ++ ([(((Dc).length : Nat) : Int) = ((m : Nat) : Int)])))) (alA (al1 (by rw [hMa.size]; first | done | rfl)) (alA (al1 q96) (alA (al1 (by rw [hMc.size]; first | done | rfl)) (al1 q98)))) ?_)
        by_cases q101 : (al : Int) = (cw : Int)
        ·
         refine qo 6 [(17, .yes)] [] [(2, .bool true)] ([(al : Int) = (cw : Int)]) (al1 q101) (on_ (ds_ (rt ([]) (.bool true) ?_)))
         exact fun w' hw => ⟨rfl, hw.below⟩
        ·
         refine qo 6 [(17, .no)] [] [(2, .bool false)] ([¬ ((al : Int) = (cw : Int))]) (al1 q101) (on_ (ds_ (rt ([]) (.bool false) ?_)))
         exfalso; omega
       ·
        refine ao_ (qo 14 [(1, .is [.obj 1] (.int .i64 (((Da).length : Nat)))), (3, .go (owns 2 1 1)), (5, .yes), (8, .is [.obj 0] (.int .i64 (((Dc).length : Nat)))), (10, .go (owns 2 1 1)), (12, .no)] [5, 15] [(148, .bool false)] ([Value.int .i64 (esa).size = .int .i64 (((Da).length : Nat))] ++ ([(((Da).length : Nat) : Int) = ((m : Nat) : Int)] ++ ([Value.int .i64 (esc).size = .int .i64 (((Dc).length : Nat))] ++ ([¬ ((((Dc).length : Nat) : Int) = ((m : Nat) : Int))])))) (alA (al1 (by rw [hMa.size]; first | done | rfl)) (alA (al1 q96) (alA (al1 (by rw [hMc.size]; first | done | rfl)) (al1 q98)))) (qo0 6 [] [] [(2, .bool false)] (on_ (ds_ (rt ([]) (.bool false) ?_)))))
        exfalso; omega
      ·
       refine ao_ (qo 14 [(1, .is [.obj 1] (.int .i64 (((Da).length : Nat)))), (3, .go (owns 2 1 1)), (5, .no)] [5, 15] [(148, .bool false)] ([Value.int .i64 (esa).size = .int .i64 (((Da).length : Nat))] ++ ([¬ ((((Da).length : Nat) : Int) = ((m : Nat) : Int))])) (alA (al1 (by rw [hMa.size]; first | done | rfl)) (al1 q96)) (qo0 6 [] [] [(2, .bool false)] (on_ (ds_ (rt ([]) (.bool false) ?_)))))
       exfalso; omega
 ·
  refine cD (.bool true) Try.call9 (fun w hw => by have := over_d p n cap ds q m capv vs w; rw [q5] at this; exact this) (qo0 5 [] [1] [(29, .bool true)] (on_ (ds_ (t_ (sq_ (qa0 [] [] [(2, .bool true)] (ds_ (rt ([]) (.bool true) ?_))))))))
  exact fun w' hw => ⟨rfl, hw.below⟩
end Go.Proofs.Ytnoefldpkfpglaa

/-! The walker: what a row's inputs are: slices and structs, opened into lists. -/
namespace Go.Proofs.Ytnoefldpkfpglaa
open Go Go.RowKit

section
variable {H : Type} {enc : TypeId × Value → H} {P : Program} {w : World} {base : Nat} {spare : Nat → Bool} {held : Bool}
theorem spot_none {a : Addr} (h : a.spot = none) : a = ⟨a.block, a.off, none⟩ := by
  cases a
  simp at h
  simp [h]
theorem trod_sv {α : Type} [Enc α] {t e : TypeId} {fuel : Nat} {cs : List Value} {x : DataW H × List MemPlace} {Good : α → Prop} (ht : P.underlying t = some (.slice e)) (hc : P.cellsOf e = Enc.k α)
    (hopen : ∀ (fuel : Nat) (cs : List Value) (x : DataW H × List MemPlace), DataW.trod enc P w base spare held fuel e cs = some x → ∃ a : α, cs = Enc.enc a ∧ Good a) (h : DataW.trod enc P w base spare held fuel t cs = some x) :
    ∃ (p : Option Addr) (n cap : Nat) (l : List α), cs = [.slice p n cap] ∧ Sv w p l ∧ n = l.length ∧ n ≤ cap ∧ cap ≤ maxLen ∧ ∀ y ∈ l, Good y := by
  rcases Deep.open_slice ht h with ⟨hcs, _⟩ | ⟨a, len, cap, m, n', D, Pl, hcs, _, hle, hmx, hm, _, hi⟩
  · exact ⟨none, 0, 0, [], hcs, Sv.nil, rfl, Nat.le_refl _, Nat.zero_le _, fun y hy => by cases hy⟩
  · have key : ∀ i, i < len → ∃ y : α, w.cells? base (a.add (i * Enc.k α)) (Enc.k α) = some (Enc.enc y) ∧ Good y := fun i hin => by
      have him : i < m := by rw [hm]; split <;> omega
      obtain ⟨cs', h1, h2⟩ := hi i him
      obtain ⟨y, rfl, hy⟩ := hopen _ _ _ h2
      rw [hc] at h1
      exact ⟨y, h1, hy⟩
    rcases Nat.eq_zero_or_pos len with h0 | h0
    · subst h0
      exact ⟨some a, 0, cap, [], hcs, Sv.nil, rfl, hle, hmx, fun y hy => by cases hy⟩
    · obtain ⟨y0, hy0, _⟩ := key 0 h0
      haveI : Inhabited α := ⟨y0⟩
      obtain ⟨f, hf⟩ := Deep.choose_lt key
      obtain ⟨_, _, hcell⟩ := World.cells?_some hy0
      have h00 := hcell 0 Enc.pos
      have hlen0 : 0 < (Enc.enc y0).length := by rw [Enc.len]; exact Enc.pos
      rw [List.getElem?_eq_getElem hlen0, Nat.zero_mul, show (a.add 0).add 0 = a by simp [Addr.add]] at h00
      have hsp := spot_none (World.cell?_spot h00)
      refine ⟨some a, len, cap, (List.range len).map f, hcs, ⟨fun _ => ⟨a.block, a.off, by rw [← hsp]⟩, fun b o hbo i hil => ?_⟩, by simp, hle, hmx, fun y hy => ?_⟩
      · have hil' : i < len := by simpa using hil
        obtain ⟨_, _, hc2⟩ := World.cells?_some (hf i hil').1
        have ha : a = ⟨b, o, none⟩ := by simpa using hbo
        subst ha
        intro j v hj
        have hjk : j < Enc.k α := by rw [← Enc.len (f i)]; have := (List.getElem?_eq_some_iff.1 hj).1; simpa using this
        have h3 := hc2 j hjk
        rw [Deep.add_add] at h3
        have h4 : (Enc.enc (f i))[j]? = some v := by simpa using hj
        rw [h4] at h3
        have h5 : (⟨b, o, none⟩ : Addr).add (i * Enc.k α + j) = ⟨b, o + i * Enc.k α + j, none⟩ := by
          unfold Addr.add; split <;> simp_all <;> omega
        rw [h5] at h3
        exact h3
      · obtain ⟨i, hir, rfl⟩ := List.mem_map.1 hy
        exact (hf i (List.mem_range.1 hir)).2
theorem list2' {α : Type} {cs : List α} (h : cs.length = 2) : ∃ c0 c1, cs = [c0, c1] := by
  match cs, h with
  | [a, b], _ => exact ⟨a, b, rfl⟩
end
end Go.Proofs.Ytnoefldpkfpglaa

/-! Chapter 09: what the rows' inputs are. -/
namespace Go.Proofs.Ytnoefldpkfpglaa
open Go Go.RowKit Go.ChangeShapes Go.WideShapes

section
variable {H : Type} {enc : TypeId × Value → H} {w : World} {base : Nat} {spare : Nat → Bool} {held : Bool}
theorem cInt : Try.prog.cellsOf 3 = 1 := by kernel_rfl
theorem cCpus : Try.prog.cellsOf 39 = 1 := by kernel_rfl
theorem cMask : Try.prog.cellsOf 41 = 2 := by kernel_rfl
theorem cVcpu : Try.prog.cellsOf 43 = 4 := by kernel_rfl
theorem cGuests : Try.prog.cellsOf 25 = 2 := by kernel_rfl
theorem cDoms : Try.prog.cellsOf 22 = 1 := by kernel_rfl
theorem cVcps : Try.prog.cellsOf 23 = 1 := by kernel_rfl
theorem word_open {fuel : Nat} {cs : List Value} {x : DataW H × List MemPlace} (h : DataW.trod enc Try.prog w base spare held fuel 39 cs = some x) : ∃ a : Int, cs = [.int .u32 a] ∧ 0 ≤ a ∧ a < 4294967296 := by
  obtain ⟨a, ea, _, hw⟩ := DataW.trod_int Try.underlying39 h
  refine ⟨a, ea, ?_⟩
  simp only [Lit.wf, Bool.and_eq_true, decide_eq_true_eq] at hw
  exact ⟨hw.1, by have h2 : a ≤ 4294967295 := hw.2; omega⟩
theorem mask_open {fuel : Nat} {cs : List Value} {x : DataW H × List MemPlace} (h : DataW.trod enc Try.prog w base spare held fuel 41 cs = some x) : ∃ a b : Int, cs = [.int .u32 a, .int .u32 b] ∧ (0 ≤ a ∧ a < 4294967296) ∧ 0 ≤ b ∧ b < 4294967296 := by
  obtain ⟨xs, n, _, rfl, hl, hlen, hf⟩ := DataW.trod_struct Try.underlying41 h
  rw [cMask] at hl
  obtain ⟨c0, c1, rfl⟩ := list2' hl
  obtain ⟨y0, y1, rfl⟩ := list2' hlen
  have h0 : DataW.trod enc Try.prog w base spare held n 39 (([c0, c1].drop 0).take (Try.prog.cellsOf 39)) = some y0 := hf 0 _ rfl
  have h1 : DataW.trod enc Try.prog w base spare held n 39 (([c0, c1].drop 1).take (Try.prog.cellsOf 39)) = some y1 := hf 1 _ rfl
  rw [cCpus] at h0 h1
  simp only [List.drop_zero, List.take_succ_cons, List.take_zero, List.drop_succ_cons] at h0 h1
  obtain ⟨a, ea, ra⟩ := word_open h0
  obtain ⟨b, eb, rb⟩ := word_open h1
  simp only [List.cons.injEq, and_true] at ea eb
  subst ea; subst eb
  exact ⟨a, b, rfl, ra, rb⟩
theorem list4v {α : Type} {cs : List α} (h : cs.length = 4) : ∃ c0 c1 c2 c3, cs = [c0, c1, c2, c3] := by
  match cs, h with
  | [a, b, c, d], _ => exact ⟨a, b, c, d, rfl⟩
theorem list3v {α : Type} {cs : List α} (h : cs.length = 3) : ∃ c0 c1 c2, cs = [c0, c1, c2] := by
  match cs, h with
  | [a, b, c], _ => exact ⟨a, b, c, rfl⟩
theorem vcpu_open {fuel : Nat} {cs : List Value} {x : DataW H × List MemPlace} (h : DataW.trod enc Try.prog w base spare held fuel 43 cs = some x) : ∃ a : Vcp, cs = Enc.enc a ∧ ((0 ≤ a.hard ∧ a.hard < 4294967296) ∧ 0 ≤ a.soft ∧ a.soft < 4294967296) := by
  obtain ⟨xs, n, _, rfl, hl, hlen, hf⟩ := DataW.trod_struct Try.underlying43 h
  rw [cVcpu] at hl
  obtain ⟨c0, c1, c2, c3, rfl⟩ := list4v hl
  obtain ⟨y0, y1, y2, rfl⟩ := list3v hlen
  have h0 : DataW.trod enc Try.prog w base spare held n 3 (([c0, c1, c2, c3].drop 0).take (Try.prog.cellsOf 3)) = some y0 := hf 0 _ rfl
  have h1 : DataW.trod enc Try.prog w base spare held n 3 (([c0, c1, c2, c3].drop 1).take (Try.prog.cellsOf 3)) = some y1 := hf 1 _ rfl
  have h2 : DataW.trod enc Try.prog w base spare held n 41 (([c0, c1, c2, c3].drop 2).take (Try.prog.cellsOf 41)) = some y2 := hf 2 _ rfl
  clear hf hl hlen h
  rw [cInt] at h0 h1
  rw [cMask] at h2
  simp only [List.drop_zero, List.take_succ_cons, List.take_zero, List.drop_succ_cons] at h0 h1 h2
  obtain ⟨a, ea, _, _⟩ := DataW.trod_int Try.underlying3 h0
  obtain ⟨b, eb, _, _⟩ := DataW.trod_int Try.underlying3 h1
  obtain ⟨c, d, ec, rc, rd⟩ := mask_open h2
  simp only [List.cons.injEq, and_true] at ea eb ec
  obtain ⟨ec, ed⟩ := ec
  subst ea; subst eb; subst ec; subst ed
  exact ⟨⟨a, b, c, d⟩, rfl, rc, rd⟩
theorem domain_open_cells : Try.prog.cellsOf 32 = 4 := by kernel_rfl
theorem domain_open_list {α : Type} {cs : List α} (h : cs.length = 4) : ∃ c0 c1 c2 c3, cs = [c0, c1, c2, c3] := by
  match cs, h with
  | [c0, c1, c2, c3], _ => exact ⟨c0, c1, c2, c3, rfl⟩
theorem domain_open {fuel : Nat} {cs : List Value} {x : DataW H × List MemPlace} (h : DataW.trod enc Try.prog w base spare held fuel 32 cs = some x) : ∃ a : Dom, cs = Enc.enc a ∧ True := by
  obtain ⟨xs, n, _, rfl, hl, hlen, hf⟩ := DataW.trod_struct Try.underlying32 h
  rw [domain_open_cells] at hl
  obtain ⟨c0, c1, c2, c3, rfl⟩ := domain_open_list hl
  obtain ⟨y0, y1, y2, y3, rfl⟩ := domain_open_list hlen
  have h0 : DataW.trod enc Try.prog w base spare held n 3 (([c0, c1, c2, c3].drop 0).take (Try.prog.cellsOf 3)) = some y0 := hf 0 _ rfl
  have h1 : DataW.trod enc Try.prog w base spare held n 3 (([c0, c1, c2, c3].drop 1).take (Try.prog.cellsOf 3)) = some y1 := hf 1 _ rfl
  have h2 : DataW.trod enc Try.prog w base spare held n 3 (([c0, c1, c2, c3].drop 2).take (Try.prog.cellsOf 3)) = some y2 := hf 2 _ rfl
  have h3 : DataW.trod enc Try.prog w base spare held n 3 (([c0, c1, c2, c3].drop 3).take (Try.prog.cellsOf 3)) = some y3 := hf 3 _ rfl
  clear hf hl hlen h
  rw [cInt] at h0 h1 h2 h3
  simp only [List.drop_zero, List.take_succ_cons, List.take_zero, List.drop_succ_cons] at h0 h1 h2 h3
  obtain ⟨v0, e0, _, _⟩ := DataW.trod_int Try.underlying3 h0
  obtain ⟨v1, e1, _, _⟩ := DataW.trod_int Try.underlying3 h1
  obtain ⟨v2, e2, _, _⟩ := DataW.trod_int Try.underlying3 h2
  obtain ⟨v3, e3, _, _⟩ := DataW.trod_int Try.underlying3 h3
  simp only [List.cons.injEq, and_true] at e0 e1 e2 e3
  subst e0; subst e1; subst e2; subst e3
  exact ⟨⟨v0, v1, v2, v3⟩, rfl, trivial⟩
set_option maxRecDepth 100000 in
theorem guests_open {v : Value} {d : DataW H} {pl : List MemPlace} (hv : Value.okWide Try.prog w .any base 25 v) (h : DataW.Trod enc Try.prog w 0 spare held 25 v d pl) :
    ∃ (p : Option Addr) (n cap : Nat) (ds : List Dom) (q : Option Addr) (m capv : Nat) (vs : List Vcp), v = .agg #[.slice p n cap, .slice q m capv] ∧ Sv w p ds ∧ n = ds.length ∧ Sv w q vs ∧ m = vs.length ∧ Wrd vs := by
  obtain ⟨cs, rfl, hsz⟩ := okWide_struct Try.underlying25 hv
  obtain ⟨fuel, hf⟩ := h
  obtain ⟨xs, n, _, _, hl, hlen, hf⟩ := DataW.trod_struct Try.underlying25 hf
  obtain ⟨y0, y1, rfl⟩ := list2' hlen
  have h0 : DataW.trod enc Try.prog w 0 spare held n 22 ((((Value.agg cs).cells.toList).drop 0).take (Try.prog.cellsOf 22)) = some y0 := hf 0 _ rfl
  have h1 : DataW.trod enc Try.prog w 0 spare held n 23 ((((Value.agg cs).cells.toList).drop 1).take (Try.prog.cellsOf 23)) = some y1 := hf 1 _ rfl
  rw [cGuests] at hl
  obtain ⟨c0, c1, hc0⟩ := list2' hl
  rw [hc0, cDoms] at h0
  rw [hc0, cVcps] at h1
  obtain ⟨p, n, cap, l, he, hs, hn, hle, hmx, _⟩ := trod_sv (Good := fun _ => True) Try.underlying22 domain_open_cells (fun _ _ _ h => domain_open h) h0
  obtain ⟨q, m, capv, l2, he2, hs2, hm, hle2, hmx2, hw⟩ := trod_sv Try.underlying23 cVcpu (fun _ _ _ h => vcpu_open h) h1
  simp only [List.drop_zero, List.take_succ_cons, List.take_zero, List.drop_succ_cons, List.cons.injEq, and_true] at he he2
  subst he; subst he2
  refine ⟨p, n, cap, l, q, m, capv, l2, ?_, hs, hn, hs2, hm, hw⟩
  congr 1
  exact Array.toList_inj.1 (by simpa [Value.cells] using hc0)
end
end Go.Proofs.Ytnoefldpkfpglaa
