/- Texts of this proof, one behind the other. -/
import Derived.Test.YtoljahfofkmdaaaZc
import Derived.Test.YtoljahfofkmdaaaZb
/-! Order: the document's entity of some members. -/
namespace Go.Proofs.Ytoljahfofkmdaaa
open Go Go.RowKit

set_option maxRecDepth 100000 in
theorem entity_t (p : Option Addr) (n cap : Nat) (ts : List Rn) (pw : Option Addr) (nw capw : Nat) (ws : List Wt) (pm : Option Addr) (nm capm : Nat) (ml : List Int) (w : World)
 (hts : Sv w p ts) (hn : n = ts.length) (hb : n ≤ 1000)
 (hU : ∀ r ∈ ts, r.U)
 (hws : Sv w pw ws) (hnw : nw = ws.length) (hbw : nw ≤ 1000)
 (hWU : ∀ x ∈ ws, x.U)
 (hml : Sv w pm ml) (hmm : nm = ml.length) (hbm : nm ≤ 1000)
 (hlw : ts.length = ws.length)
 (hok : ∀ r ∈ ts, r.t.ok = true)
 : Calls Try.prog 44 #[.agg #[.slice p n cap], .slice pw nw capw, .slice pm nm capm] w fun e w' => ∃ q' n' c' Y, e = .returned (.tuple #[.agg #[.slice q' n' c', .int .u64 (entR ((pairsV ts ws).filter fun p => decide (p.r.id ∈ ml))).t.hi, .int .u64 (entR ((pairsV ts ws).filter fun p => decide (p.r.id ∈ ml))).t.lo, .int .u64 (entR ((pairsV ts ws).filter fun p => decide (p.r.id ∈ ml))).t.w, .int .u64 (entR ((pairsV ts ws).filter fun p => decide (p.r.id ∈ ml))).ord, .bool (entR ((pairsV ts ws).filter fun p => decide (p.r.id ∈ ml))).fresh], .bool (!((pairsV ts ws).filter fun p => decide (p.r.id ∈ ml)).isEmpty)]) ∧ SlO 3 Y q' n' c' (entR ((pairsV ts ws).filter fun p => decide (p.r.id ∈ ml))).mem ∧ (entR ((pairsV ts ws).filter fun p => decide (p.r.id ∈ ml))).t.U ∧ Below w.heap.size w w' ∧ Hs w Y w' := by
 refine enter (Hs.start w) Try.func44 rfl Try.ntmps44 rfl (sq_ (ma0 [] [1, 2] (fun γ1 => [(3, .pointer (some ⟨γ1 0, 0, none⟩)), (6, .pointer (some ⟨γ1 1, 0, none⟩))]) (fun γ1 L => bx (γ1 1) (#[.slice none 0 0, .int .u64 0, .int .u64 0, .int .u64 0, .int .u64 0, .bool false]) 47 :: bx (γ1 0) (#[.slice p n cap]) 26 :: L) (fun γ1 => ds_ (sq_ (ma0 [(2, .go (owns 0 0 6))] [1, 2, 3, 6] (fun γ2 => [(8, .pointer (some ⟨γ2 0, 0, none⟩))]) (fun γ2 L => bx (γ2 0) (#[.slice none 0 0, .int .u64 0, .int .u64 0, .int .u64 0, .int .u64 0, .bool true]) 47 :: L) (fun γ2 => ds_ (sq_ (sq_ (qa0 [(1, .go (owns 2 0 1))] [1, 2, 6, 8] [(13, .slice p n cap), (14, .int .i64 (n : Nat)), (15, .int .i64 0)] (ds_ (at_block (at_loop (α := Nat × List Ob × Option Addr × Nat × Nat × Fq × Int × Bool) [1, 2, 6, 8, 13, 14, 15] (fun ⟨j, Yo, po, nu, co, f, od, fb⟩ => [(1, .slice pw nw capw), (2, .slice pm nm capm), (6, .pointer (some ⟨γ1 1, 0, none⟩)), (8, .pointer (some ⟨γ2 0, 0, none⟩)), (13, .slice p n cap), (14, .int .i64 (n : Nat)), (15, .int .i64 (j : Nat))]) (fun ⟨j, Yo, po, nu, co, f, od, fb⟩ => bx (γ2 0) (#[.slice po nu co, .int .u64 f.hi, .int .u64 f.lo, .int .u64 f.w, .int .u64 od, .bool fb]) 47 :: bx (γ1 1) (#[.slice none 0 0, .int .u64 0, .int .u64 0, .int .u64 0, .int .u64 0, .bool false]) 47 :: bx (γ1 0) (#[.slice p n cap]) 26 :: (Yo ++ [])) (fun ⟨j, Yo, po, nu, co, f, od, fb⟩ => j ≤ n ∧ nu ≤ j ∧ f.U ∧ (0 < nu → f.ok = true) ∧ entR (selF (pairsV ts ws) ml j) = ⟨(memS (pairsV ts ws) ml j), f, od, fb⟩ ∧ SlO 3 Yo po nu co (memS (pairsV ts ws) ml j)) (fun ⟨j, Yo, po, nu, co, f, od, fb⟩ => n - j) (0, [], none, 0, 0, zF, 0, true) (by kernel_rfl) rfl ⟨Nat.zero_le _, Nat.le_refl _, z_U, (fun h => absurd h (Nat.lt_irrefl 0)), rfl, SlO.nil⟩ ?_))))))))))))
 rintro ⟨j, Yo, po, nu, co, f, od, fb⟩
 rintro ⟨hj, hnu, hUf, hfo, hE, hO⟩
 have hlo := hO.len
 refine sq_ ?_
 by_cases q5 : ((j : Nat) : Int) < ((n : Nat) : Int)
 ·
  refine qa [(0, .yes)] [1, 2, 6, 8, 13, 14, 15] [(16, .bool true)] ([((j : Nat) : Int) < ((n : Nat) : Int)]) (al1 q5) (ds_ (sq_ (t_ (at_skip (ds_ (sq_ (at_block (sq_ ?_))))))))
  obtain ⟨b8, o8, rfl⟩ := hts.pos (i := j) (by omega)
  obtain ⟨x10, hx10⟩ := get_some (l := ts) (m := j) (by omega)
  have hUx10 := hU x10 (List.mem_of_getElem? hx10)
  refine ma [(1, .at b8 o8 j), (2, .go (outs b8 (o8 + j * 5) [.int .i64 x10.id, .int .i64 x10.each, .int .u64 x10.th, .int .u64 x10.tl, .int .u64 x10.tw])), (5, .go (owns 0 0 5))] [1, 2, 6, 8, 13, 14, 15] (fun γ11 => [(9, .int .i64 (j : Nat)), (10, .pointer (some ⟨γ11 0, 0, none⟩))]) (fun γ11 L => bx (γ11 0) (#[.int .i64 x10.id, .int .i64 x10.each, .int .u64 x10.th, .int .u64 x10.tl, .int .u64 x10.tw]) 67 :: L) (fun γ11 => [(some ⟨b8, o8, none⟩ : Option Addr) = some ⟨b8, o8, none⟩, (j : Nat) = ((j : Nat) : Int), j < n] ++ (cellsP w b8 (o8 + j * 5) [.int .i64 x10.id, .int .i64 x10.each, .int .u64 x10.th, .int .u64 x10.tl, .int .u64 x10.tw])) (fun γ11 => (alA (al2 rfl (al2 rfl (al1 (by omega)))) (rd_pre (hts.get hx10) _ rfl))) (fun γ11 => ds_ (sq_ (sq_ (ao_ (qo0 3 [(2, .go (owns 0 0 1))] [1, 2, 6, 8, 9, 10, 13, 14, 15] [(20, .slice pm nm capm), (22, .int .i64 x10.id)] ?_)))))
  rcases q13 : decide (x10.id ∈ ml) with _ | _
  ·
   refine cD (.bool false) Try.call43 (fun w hw => by have := has_t pm nm capm ml x10.id w (hml.kept hw.below) hmm (by omega); rw [q13] at this; exact this) (qo0 1 [] [1, 2, 6, 8, 9, 10, 13, 14, 15] [(24, .bool true)] (on_ (ds_ (t_ (at_leave _ rfl (ds_ (qa [(0, .fit)] [1, 2, 6, 8, 13, 14] [(15, .int .i64 (j + 1 : Nat))] ([Fit .i64 ((j + 1 : Nat))]) (al1 (fit64 (by omega) (by omega))) (Done.pick [[bx (γ11 0) (#[.int .i64 x10.id, .int .i64 x10.each, .int .u64 x10.th, .int .u64 x10.tl, .int .u64 x10.tw]) 67], [bx (γ2 0) (#[.slice po nu co, .int .u64 f.hi, .int .u64 f.lo, .int .u64 f.w, .int .u64 od, .bool fb]) 47], [bx (γ1 1) (#[.slice none 0 0, .int .u64 0, .int .u64 0, .int .u64 0, .int .u64 0, .bool false]) 47], [bx (γ1 0) (#[.slice (some ⟨b8, o8, none⟩) n cap]) 26], Yo] [1, 2, 3, 4] [0] (bx (γ2 0) (#[.slice po nu co, .int .u64 f.hi, .int .u64 f.lo, .int .u64 f.w, .int .u64 od, .bool fb]) 47 :: bx (γ1 1) (#[.slice none 0 0, .int .u64 0, .int .u64 0, .int .u64 0, .int .u64 0, .bool false]) 47 :: bx (γ1 0) (#[.slice (some ⟨b8, o8, none⟩) n cap]) 26 :: (Yo ++ [])) (by kernel_rfl) rfl rfl ?_))))))))
   obtain ⟨x16, hx16⟩ := get_some (l := ws) (m := j) (by omega)
   have hz := pairs_at hx10 hx16
   exact dr [1, 2, 6, 8, 13, 14, 15] (j + 1, Yo, po, nu, co, f, od, fb) ⟨by omega, by omega, hUf, hfo, by rw [sel_no hz q13, mems_no hz q13]; exact hE, by rw [mems_no hz q13]; exact hO⟩
  ·
   refine cD (.bool true) Try.call43 (fun w hw => by have := has_t pm nm capm ml x10.id w (hml.kept hw.below) hmm (by omega); rw [q13] at this; exact this) (qo0 1 [] [1, 2, 6, 8, 9, 10, 13, 14, 15] [(24, .bool false)] (on_ (ds_ (f_ (at_skip (ds_ (sq_ (sq_ ?_))))))))
   by_cases q19 : ((nu : Nat) : Int) = (0 : Int)
   ·
    refine qa [(1, .go (owns 1 0 1)), (3, .yes)] [1, 2, 6, 8, 9, 10, 13, 14, 15] [(36, .bool true)] ([((nu : Nat) : Int) = (0 : Int)]) (al1 q19) (ds_ (t_ (ma0 [(1, .go (owns 0 2 3)), (3, .go (owns 1 1 3))] [1, 2, 6, 8, 9, 10, 13, 14, 15] (fun _ => []) (fun _ L => (L.set 1 (bx (γ2 0) (#[.slice po nu co, .int .u64 x10.th, .int .u64 x10.tl, .int .u64 x10.tw, .int .u64 od, .bool fb]) 47))) (fun _ => ds_ (sq_ (sq_ (cq [(1, .go (owns 1 0 1)), (3, .yes)] [1, 2, 6, 8, 9, 10, 13, 14, 15] [(53, .bool true)] ([((nu : Nat) : Int) = (0 : Int)]) rfl (by kernel_rfl) (by kernel_rfl) (by kernel_rfl) (al1 q19) (ds_ (t_ ?_)))))))))
    obtain ⟨b24, o24, rfl⟩ := hws.pos (i := j) (by omega)
    obtain ⟨x26, hx26⟩ := get_some (l := ws) (m := j) (by omega)
    have hWx26 := hWU x26 (List.mem_of_getElem? hx26)
    refine ma [(2, .at b24 o24 j), (4, .go (outs b24 (o24 + j * 3 + 1) [.int .u64 x26.ord])), (6, .go (owns 1 4 1))] [1, 2, 6, 8, 9, 10, 13, 14, 15] (fun _ => []) (fun _ L => (L.set 1 (bx (γ2 0) (#[.slice po nu co, .int .u64 x10.th, .int .u64 x10.tl, .int .u64 x10.tw, .int .u64 x26.ord, .bool fb]) 47))) (fun _ => [(some ⟨b24, o24, none⟩ : Option Addr) = some ⟨b24, o24, none⟩, (j : Nat) = ((j : Nat) : Int), j < nw] ++ (cellsP w b24 (o24 + j * 3 + 1) [.int .u64 x26.ord])) (fun _ => (alA (al2 rfl (al2 rfl (al1 (by omega)))) (rd_part (hws.get hx26) 1 _ rfl))) (fun _ => ds_ (sq_ ?_))
    rcases q28 : fb with _ | _
    ·
     refine qa0 [(1, .go (owns 1 5 1)), (10, .go (owns 1 5 1))] [1, 2, 6, 8, 10, 13, 14, 15] [] (ds_ (ao_ (mo0 5 [(1, .go (owns 1 0 1)), (3, .go (owns 0 0 1))] [1, 2, 6, 8, 13, 14, 15] (fun γ30 => [(71, .slice po nu co), (74, .slice (some ⟨γ30 0, 0, none⟩) 1 1)]) (fun γ30 L => bx (γ30 0) (#[.int .i64 x10.id]) 3 :: L) (fun γ30 => ops_append (α := Int) [bx (γ30 0) (#[.int .i64 x10.id]) 3, bx (γ11 0) (#[.int .i64 x10.id, .int .i64 x10.each, .int .u64 x10.th, .int .u64 x10.tl, .int .u64 x10.tw]) 67, bx (γ2 0) (#[.slice po nu co, .int .u64 x10.th, .int .u64 x10.tl, .int .u64 x10.tw, .int .u64 x26.ord, .bool false]) 47, bx (γ1 1) (#[.slice none 0 0, .int .u64 0, .int .u64 0, .int .u64 0, .int .u64 0, .bool false]) 47, bx (γ1 0) (#[.slice (some ⟨b8, o8, none⟩) n cap]) 26] Yo ([]) (.refl _) rfl (by kernel_rfl) (by kernel_rfl) (p := po) (n := nu) (cap := co) (m := 1) (yv := .slice (some ⟨γ30 0, 0, none⟩) 1 1) (by kernel_rfl) (by kernel_rfl) (T := 3) (by_ := 8) (by kernel_rfl) (memS (pairsV ts ws) ml j) ([x10.id]) hO (fun w hw => src_svn Try.underlying40 (sv_row (hw.row 0 rfl) (by rfl)) (by rfl)) (by rfl) (by have hmx : maxLen = 9223372036854775807 := rfl; omega) (by have hmx : maxLen = 9223372036854775807 := rfl; omega) (fun Y31 p31 cap31 hO31 => mo0 2 [(7, .go (owns 2 0 1))] [1, 2, 6, 8, 13, 14, 15] (fun _ => []) (fun _ L => (L.set 2 (bx (γ2 0) (#[.slice p31 (nu + 1) cap31, .int .u64 x10.th, .int .u64 x10.tl, .int .u64 x10.tw, .int .u64 x26.ord, .bool false]) 47))) (fun _ => on_ (done_block (ds_ (qa [(0, .fit)] [1, 2, 6, 8, 13, 14] [(15, .int .i64 (j + 1 : Nat))] ([Fit .i64 ((j + 1 : Nat))]) (al1 (fit64 (by omega) (by omega))) (Done.pick [[bx (γ30 0) (#[.int .i64 x10.id]) 3], [bx (γ11 0) (#[.int .i64 x10.id, .int .i64 x10.each, .int .u64 x10.th, .int .u64 x10.tl, .int .u64 x10.tw]) 67], [bx (γ2 0) (#[.slice p31 (nu + 1) cap31, .int .u64 x10.th, .int .u64 x10.tl, .int .u64 x10.tw, .int .u64 x26.ord, .bool false]) 47], [bx (γ1 1) (#[.slice none 0 0, .int .u64 0, .int .u64 0, .int .u64 0, .int .u64 0, .bool false]) 47], [bx (γ1 0) (#[.slice (some ⟨b8, o8, none⟩) n cap]) 26], Y31] [2, 3, 4, 5] [0, 1] (bx (γ2 0) (#[.slice p31 (nu + 1) cap31, .int .u64 x10.th, .int .u64 x10.tl, .int .u64 x10.tw, .int .u64 x26.ord, .bool false]) 47 :: bx (γ1 1) (#[.slice none 0 0, .int .u64 0, .int .u64 0, .int .u64 0, .int .u64 0, .bool false]) 47 :: bx (γ1 0) (#[.slice (some ⟨b8, o8, none⟩) n cap]) 26 :: (Y31 ++ [])) (by kernel_rfl) rfl rfl ?_))))))))))
     have hz := pairs_at hx10 hx26
     exact dr [1, 2, 6, 8, 13, 14, 15] (j + 1, Y31, p31, (nu + 1), cap31, x10.t, x26.ord, false) ⟨by omega, by omega, hUx10.t, fun _ => hok x10 (List.mem_of_getElem? hx10), by rw [sel_yes hz q13, mems_yes hz q13, ent_first hE (sel_nil (by omega))]; exact congrArg (En.mk _ _ _) (Eq.symm (show false = (fb && x26.fresh) from by rw [q28]; rfl)), by rw [mems_yes hz q13]; exact hO31⟩
    ·
     refine ma [(1, .go (owns 1 5 1)), (5, .at b24 o24 j), (7, .go (outs b24 (o24 + j * 3 + 2) [.bool x26.fresh])), (10, .go (owns 1 5 1))] [1, 2, 6, 8, 10, 13, 14, 15] (fun _ => []) (fun _ L => (L.set 1 (bx (γ2 0) (#[.slice po nu co, .int .u64 x10.th, .int .u64 x10.tl, .int .u64 x10.tw, .int .u64 x26.ord, .bool x26.fresh]) 47))) (fun _ => [(some ⟨b24, o24, none⟩ : Option Addr) = some ⟨b24, o24, none⟩, (j : Nat) = ((j : Nat) : Int), j < nw] ++ (cellsP w b24 (o24 + j * 3 + 2) [.bool x26.fresh])) (fun _ => (alA (al2 rfl (al2 rfl (al1 (by omega)))) (rd_part (hws.get hx26) 2 _ rfl))) (fun _ => ds_ (ao_ (mo0 5 [(1, .go (owns 1 0 1)), (3, .go (owns 0 0 1))] [1, 2, 6, 8, 13, 14, 15] (fun γ35 => [(71, .slice po nu co), (74, .slice (some ⟨γ35 0, 0, none⟩) 1 1)]) (fun γ35 L => bx (γ35 0) (#[.int .i64 x10.id]) 3 :: L) (fun γ35 => ops_append (α := Int) [bx (γ35 0) (#[.int .i64 x10.id]) 3, bx (γ11 0) (#[.int .i64 x10.id, .int .i64 x10.each, .int .u64 x10.th, .int .u64 x10.tl, .int .u64 x10.tw]) 67, bx (γ2 0) (#[.slice po nu co, .int .u64 x10.th, .int .u64 x10.tl, .int .u64 x10.tw, .int .u64 x26.ord, .bool x26.fresh]) 47, bx (γ1 1) (#[.slice none 0 0, .int .u64 0, .int .u64 0, .int .u64 0, .int .u64 0, .bool false]) 47, bx (γ1 0) (#[.slice (some ⟨b8, o8, none⟩) n cap]) 26] Yo ([]) (.refl _) rfl (by kernel_rfl) (by kernel_rfl) (p := po) (n := nu) (cap := co) (m := 1) (yv := .slice (some ⟨γ35 0, 0, none⟩) 1 1) (by kernel_rfl) (by kernel_rfl) (T := 3) (by_ := 8) (by kernel_rfl) (memS (pairsV ts ws) ml j) ([x10.id]) hO (fun w hw => src_svn Try.underlying40 (sv_row (hw.row 0 rfl) (by rfl)) (by rfl)) (by rfl) (by have hmx : maxLen = 9223372036854775807 := rfl; omega) (by have hmx : maxLen = 9223372036854775807 := rfl; omega) (fun Y36 p36 cap36 hO36 => mo0 2 [(7, .go (owns 2 0 1))] [1, 2, 6, 8, 13, 14, 15] (fun _ => []) (fun _ L => (L.set 2 (bx (γ2 0) (#[.slice p36 (nu + 1) cap36, .int .u64 x10.th, .int .u64 x10.tl, .int .u64 x10.tw, .int .u64 x26.ord, .bool x26.fresh]) 47))) (fun _ => on_ (done_block (ds_ (qa [(0, .fit)] [1, 2, 6, 8, 13, 14] [(15, .int .i64 (j + 1 : Nat))] ([Fit .i64 ((j + 1 : Nat))]) (al1 (fit64 (by omega) (by omega))) (Done.pick [[bx (γ35 0) (#[.int .i64 x10.id]) 3], [bx (γ11 0) (#[.int .i64 x10.id, .int .i64 x10.each, .int .u64 x10.th, .int .u64 x10.tl, .int .u64 x10.tw]) 67], [bx (γ2 0) (#[.slice p36 (nu + 1) cap36, .int .u64 x10.th, .int .u64 x10.tl, .int .u64 x10.tw, .int .u64 x26.ord, .bool x26.fresh]) 47], [bx (γ1 1) (#[.slice none 0 0, .int .u64 0, .int .u64 0, .int .u64 0, .int .u64 0, .bool false]) 47], [bx (γ1 0) (#[.slice (some ⟨b8, o8, none⟩) n cap]) 26], Y36] [2, 3, 4, 5] [0, 1] (bx (γ2 0) (#[.slice p36 (nu + 1) cap36, .int .u64 x10.th, .int .u64 x10.tl, .int .u64 x10.tw, .int .u64 x26.ord, .bool x26.fresh]) 47 :: bx (γ1 1) (#[.slice none 0 0, .int .u64 0, .int .u64 0, .int .u64 0, .int .u64 0, .bool false]) 47 :: bx (γ1 0) (#[.slice (some ⟨b8, o8, none⟩) n cap]) 26 :: (Y36 ++ [])) (by kernel_rfl) rfl rfl ?_))))))))))
     have hz := pairs_at hx10 hx26
     exact dr [1, 2, 6, 8, 13, 14, 15] (j + 1, Y36, p36, (nu + 1), cap36, x10.t, x26.ord, x26.fresh) ⟨by omega, by omega, hUx10.t, fun _ => hok x10 (List.mem_of_getElem? hx10), by rw [sel_yes hz q13, mems_yes hz q13, ent_first hE (sel_nil (by omega))]; exact congrArg (En.mk _ _ _) (Eq.symm (show x26.fresh = (fb && x26.fresh) from by rw [q28]; rw [Bool.true_and])), by rw [mems_yes hz q13]; exact hO36⟩
   ·
    refine ao_ (qo 9 [(1, .go (owns 1 0 1)), (3, .no), (6, .go (owns 0 2 3)), (8, .go (owns 1 1 3))] [1, 2, 6, 8, 9, 10, 13, 14, 15] [(29, .bool false), (31, .agg #[.int .u64 x10.th, .int .u64 x10.tl, .int .u64 x10.tw]), (33, .agg #[.int .u64 f.hi, .int .u64 f.lo, .int .u64 f.w])] ([¬ (((nu : Nat) : Int) = (0 : Int))]) (al1 q19) (cD (.int .i64 (cmpF x10.t f)) Try.call50 (fun w hw => by have := rcmp_t x10.t f w hUx10.t hUf; rw [← cmpF_yes (a := x10.t) (b := f) (by rw [hok x10 (List.mem_of_getElem? hx10), hfo (by omega)]; rfl)] at this; exact this) ?_))
    by_cases q41 : ((cmpF x10.t f) : Int) > (0 : Int)
    ·
     refine qo 2 [(10, .yes)] [1, 2, 6, 8, 9, 10, 13, 14, 15] [(36, .bool true)] ([((cmpF x10.t f) : Int) > (0 : Int)]) (al1 q41) (on_ (ds_ (t_ (ma0 [(1, .go (owns 0 2 3)), (3, .go (owns 1 1 3))] [1, 2, 6, 8, 9, 10, 13, 14, 15] (fun _ => []) (fun _ L => (L.set 1 (bx (γ2 0) (#[.slice po nu co, .int .u64 x10.th, .int .u64 x10.tl, .int .u64 x10.tw, .int .u64 od, .bool fb]) 47))) (fun _ => ds_ (sq_ (sq_ ?_)))))))
     obtain ⟨b45, o45, rfl⟩ := hws.pos (i := j) (by omega)
     obtain ⟨x47, hx47⟩ := get_some (l := ws) (m := j) (by omega)
     have hWx47 := hWU x47 (List.mem_of_getElem? hx47)
     by_cases q49 : (x47.ord : Int) < (od : Int)
     ·
      refine cq [(1, .go (owns 1 0 1)), (3, .no), (7, .at b45 o45 j), (9, .go (outs b45 (o45 + j * 3 + 1) [.int .u64 x47.ord])), (11, .go (owns 1 4 1)), (12, .yes)] [1, 2, 6, 8, 9, 10, 13, 14, 15] [(53, .bool true)] ([¬ (((nu : Nat) : Int) = (0 : Int))] ++ ([(some ⟨b45, o45, none⟩ : Option Addr) = some ⟨b45, o45, none⟩, (j : Nat) = ((j : Nat) : Int), j < nw] ++ (cellsP w b45 (o45 + j * 3 + 1) [.int .u64 x47.ord] ++ ([(x47.ord : Int) < (od : Int)])))) rfl (by kernel_rfl) (by kernel_rfl) (by kernel_rfl) (alA (al1 q19) (alA (al2 rfl (al2 rfl (al1 (by omega)))) (alA (rd_part (hws.get hx47) 1 _ rfl) (al1 q49)))) (ds_ (t_ (ma [(2, .at b45 o45 j), (4, .go (outs b45 (o45 + j * 3 + 1) [.int .u64 x47.ord])), (6, .go (owns 1 4 1))] [1, 2, 6, 8, 9, 10, 13, 14, 15] (fun _ => []) (fun _ L => (L.set 1 (bx (γ2 0) (#[.slice po nu co, .int .u64 x10.th, .int .u64 x10.tl, .int .u64 x10.tw, .int .u64 x47.ord, .bool fb]) 47))) (fun _ => [(some ⟨b45, o45, none⟩ : Option Addr) = some ⟨b45, o45, none⟩, (j : Nat) = ((j : Nat) : Int), j < nw] ++ (cellsP w b45 (o45 + j * 3 + 1) [.int .u64 x47.ord])) (fun _ => (alA (al2 rfl (al2 rfl (al1 (by omega)))) (rd_part (hws.get hx47) 1 _ rfl))) (fun _ => ds_ (sq_ ?_)))))
      rcases q52 : fb with _ | _
      ·
       refine qa0 [(1, .go (owns 1 5 1)), (10, .go (owns 1 5 1))] [1, 2, 6, 8, 10, 13, 14, 15] [] (ds_ (ao_ (mo0 5 [(1, .go (owns 1 0 1)), (3, .go (owns 0 0 1))] [1, 2, 6, 8, 13, 14, 15] (fun γ54 => [(71, .slice po nu co), (74, .slice (some ⟨γ54 0, 0, none⟩) 1 1)]) (fun γ54 L => bx (γ54 0) (#[.int .i64 x10.id]) 3 :: L) (fun γ54 => ops_append (α := Int) [bx (γ54 0) (#[.int .i64 x10.id]) 3, bx (γ11 0) (#[.int .i64 x10.id, .int .i64 x10.each, .int .u64 x10.th, .int .u64 x10.tl, .int .u64 x10.tw]) 67, bx (γ2 0) (#[.slice po nu co, .int .u64 x10.th, .int .u64 x10.tl, .int .u64 x10.tw, .int .u64 x47.ord, .bool false]) 47, bx (γ1 1) (#[.slice none 0 0, .int .u64 0, .int .u64 0, .int .u64 0, .int .u64 0, .bool false]) 47, bx (γ1 0) (#[.slice (some ⟨b8, o8, none⟩) n cap]) 26] Yo ([]) (.refl _) rfl (by kernel_rfl) (by kernel_rfl) (p := po) (n := nu) (cap := co) (m := 1) (yv := .slice (some ⟨γ54 0, 0, none⟩) 1 1) (by kernel_rfl) (by kernel_rfl) (T := 3) (by_ := 8) (by kernel_rfl) (memS (pairsV ts ws) ml j) ([x10.id]) hO (fun w hw => src_svn Try.underlying40 (sv_row (hw.row 0 rfl) (by rfl)) (by rfl)) (by rfl) (by have hmx : maxLen = 9223372036854775807 := rfl; omega) (by have hmx : maxLen = 9223372036854775807 := rfl; omega) (fun Y55 p55 cap55 hO55 => mo0 2 [(7, .go (owns 2 0 1))] [1, 2, 6, 8, 13, 14, 15] (fun _ => []) (fun _ L => (L.set 2 (bx (γ2 0) (#[.slice p55 (nu + 1) cap55, .int .u64 x10.th, .int .u64 x10.tl, .int .u64 x10.tw, .int .u64 x47.ord, .bool false]) 47))) (fun _ => on_ (done_block (ds_ (qa [(0, .fit)] [1, 2, 6, 8, 13, 14] [(15, .int .i64 (j + 1 : Nat))] ([Fit .i64 ((j + 1 : Nat))]) (al1 (fit64 (by omega) (by omega))) (Done.pick [[bx (γ54 0) (#[.int .i64 x10.id]) 3], [bx (γ11 0) (#[.int .i64 x10.id, .int .i64 x10.each, .int .u64 x10.th, .int .u64 x10.tl, .int .u64 x10.tw]) 67], [bx (γ2 0) (#[.slice p55 (nu + 1) cap55, .int .u64 x10.th, .int .u64 x10.tl, .int .u64 x10.tw, .int .u64 x47.ord, .bool false]) 47], [bx (γ1 1) (#[.slice none 0 0, .int .u64 0, .int .u64 0, .int .u64 0, .int .u64 0, .bool false]) 47], [bx (γ1 0) (#[.slice (some ⟨b8, o8, none⟩) n cap]) 26], Y55] [2, 3, 4, 5] [0, 1] (bx (γ2 0) (#[.slice p55 (nu + 1) cap55, .int .u64 x10.th, .int .u64 x10.tl, .int .u64 x10.tw, .int .u64 x47.ord, .bool false]) 47 :: bx (γ1 1) (#[.slice none 0 0, .int .u64 0, .int .u64 0, .int .u64 0, .int .u64 0, .bool false]) 47 :: bx (γ1 0) (#[.slice (some ⟨b8, o8, none⟩) n cap]) 26 :: (Y55 ++ [])) (by kernel_rfl) rfl rfl ?_))))))))))
       have hz := pairs_at hx10 hx47
       exact dr [1, 2, 6, 8, 13, 14, 15] (j + 1, Y55, p55, (nu + 1), cap55, x10.t, x47.ord, false) ⟨by omega, by omega, hUx10.t, fun _ => hok x10 (List.mem_of_getElem? hx10), by rw [sel_yes hz q13, mems_yes hz q13, ent_more hE (sel_ne (by omega)), if_pos q41, if_pos q49]; exact congrArg (En.mk _ _ _) (Eq.symm (show false = (fb && x47.fresh) from by rw [q52]; rfl)), by rw [mems_yes hz q13]; exact hO55⟩
      ·
       refine ma [(1, .go (owns 1 5 1)), (5, .at b45 o45 j), (7, .go (outs b45 (o45 + j * 3 + 2) [.bool x47.fresh])), (10, .go (owns 1 5 1))] [1, 2, 6, 8, 10, 13, 14, 15] (fun _ => []) (fun _ L => (L.set 1 (bx (γ2 0) (#[.slice po nu co, .int .u64 x10.th, .int .u64 x10.tl, .int .u64 x10.tw, .int .u64 x47.ord, .bool x47.fresh]) 47))) (fun _ => [(some ⟨b45, o45, none⟩ : Option Addr) = some ⟨b45, o45, none⟩, (j : Nat) = ((j : Nat) : Int), j < nw] ++ (cellsP w b45 (o45 + j * 3 + 2) [.bool x47.fresh])) (fun _ => (alA (al2 rfl (al2 rfl (al1 (by omega)))) (rd_part (hws.get hx47) 2 _ rfl))) (fun _ => ds_ (ao_ (mo0 5 [(1, .go (owns 1 0 1)), (3, .go (owns 0 0 1))] [1, 2, 6, 8, 13, 14, 15] (fun γ59 => [(71, .slice po nu co), (74, .slice (some ⟨γ59 0, 0, none⟩) 1 1)]) (fun γ59 L => bx (γ59 0) (#[.int .i64 x10.id]) 3 :: L) (fun γ59 => ops_append (α := Int) [bx (γ59 0) (#[.int .i64 x10.id]) 3, bx (γ11 0) (#[.int .i64 x10.id, .int .i64 x10.each, .int .u64 x10.th, .int .u64 x10.tl, .int .u64 x10.tw]) 67, bx (γ2 0) (#[.slice po nu co, .int .u64 x10.th, .int .u64 x10.tl, .int .u64 x10.tw, .int .u64 x47.ord, .bool x47.fresh]) 47, bx (γ1 1) (#[.slice none 0 0, .int .u64 0, .int .u64 0, .int .u64 0, .int .u64 0, .bool false]) 47, bx (γ1 0) (#[.slice (some ⟨b8, o8, none⟩) n cap]) 26] Yo ([]) (.refl _) rfl (by kernel_rfl) (by kernel_rfl) (p := po) (n := nu) (cap := co) (m := 1) (yv := .slice (some ⟨γ59 0, 0, none⟩) 1 1) (by kernel_rfl) (by kernel_rfl) (T := 3) (by_ := 8) (by kernel_rfl) (memS (pairsV ts ws) ml j) ([x10.id]) hO (fun w hw => src_svn Try.underlying40 (sv_row (hw.row 0 rfl) (by rfl)) (by rfl)) (by rfl) (by have hmx : maxLen = 9223372036854775807 := rfl; omega) (by have hmx : maxLen = 9223372036854775807 := rfl; omega) (fun Y60 p60 cap60 hO60 => mo0 2 [(7, .go (owns 2 0 1))] [1, 2, 6, 8, 13, 14, 15] (fun _ => []) (fun _ L => (L.set 2 (bx (γ2 0) (#[.slice p60 (nu + 1) cap60, .int .u64 x10.th, .int .u64 x10.tl, .int .u64 x10.tw, .int .u64 x47.ord, .bool x47.fresh]) 47))) (fun _ => on_ (done_block (ds_ (qa [(0, .fit)] [1, 2, 6, 8, 13, 14] [(15, .int .i64 (j + 1 : Nat))] ([Fit .i64 ((j + 1 : Nat))]) (al1 (fit64 (by omega) (by omega))) (Done.pick [[bx (γ59 0) (#[.int .i64 x10.id]) 3], [bx (γ11 0) (#[.int .i64 x10.id, .int .i64 x10.each, .int .u64 x10.th, .int .u64 x10.tl, .int .u64 x10.tw]) 67], [bx (γ2 0) (#[.slice p60 (nu + 1) cap60, .int .u64 x10.th, .int .u64 x10.tl, .int .u64 x10.tw, .int .u64 x47.ord, .bool x47.fresh]) 47], [bx (γ1 1) (#[.slice none 0 0, .int .u64 0, .int .u64 0, .int .u64 0, .int .u64 0, .bool false]) 47], [bx (γ1 0) (#[.slice (some ⟨b8, o8, none⟩) n cap]) 26], Y60] [2, 3, 4, 5] [0, 1] (bx (γ2 0) (#[.slice p60 (nu + 1) cap60, .int .u64 x10.th, .int .u64 x10.tl, .int .u64 x10.tw, .int .u64 x47.ord, .bool x47.fresh]) 47 :: bx (γ1 1) (#[.slice none 0 0, .int .u64 0, .int .u64 0, .int .u64 0, .int .u64 0, .bool false]) 47 :: bx (γ1 0) (#[.slice (some ⟨b8, o8, none⟩) n cap]) 26 :: (Y60 ++ [])) (by kernel_rfl) rfl rfl ?_))))))))))
       have hz := pairs_at hx10 hx47
       exact dr [1, 2, 6, 8, 13, 14, 15] (j + 1, Y60, p60, (nu + 1), cap60, x10.t, x47.ord, x47.fresh) ⟨by omega, by omega, hUx10.t, fun _ => hok x10 (List.mem_of_getElem? hx10), by rw [sel_yes hz q13, mems_yes hz q13, ent_more hE (sel_ne (by omega)), if_pos q41, if_pos q49]; exact congrArg (En.mk _ _ _) (Eq.symm (show x47.fresh = (fb && x47.fresh) from by rw [q52]; rw [Bool.true_and])), by rw [mems_yes hz q13]; exact hO60⟩
     ·
      refine cq [(1, .go (owns 1 0 1)), (3, .no), (7, .at b45 o45 j), (9, .go (outs b45 (o45 + j * 3 + 1) [.int .u64 x47.ord])), (11, .go (owns 1 4 1)), (12, .no)] [1, 2, 6, 8, 9, 10, 13, 14, 15] [(53, .bool false)] ([¬ (((nu : Nat) : Int) = (0 : Int))] ++ ([(some ⟨b45, o45, none⟩ : Option Addr) = some ⟨b45, o45, none⟩, (j : Nat) = ((j : Nat) : Int), j < nw] ++ (cellsP w b45 (o45 + j * 3 + 1) [.int .u64 x47.ord] ++ ([¬ ((x47.ord : Int) < (od : Int))])))) rfl (by kernel_rfl) (by kernel_rfl) (by kernel_rfl) (alA (al1 q19) (alA (al2 rfl (al2 rfl (al1 (by omega)))) (alA (rd_part (hws.get hx47) 1 _ rfl) (al1 q49)))) (ds_ (f_ (at_skip (ds_ (sq_ ?_)))))
      rcases q64 : fb with _ | _
      ·
       refine qa0 [(1, .go (owns 1 5 1)), (10, .go (owns 1 5 1))] [1, 2, 6, 8, 10, 13, 14, 15] [] (ds_ (ao_ (mo0 5 [(1, .go (owns 1 0 1)), (3, .go (owns 0 0 1))] [1, 2, 6, 8, 13, 14, 15] (fun γ66 => [(71, .slice po nu co), (74, .slice (some ⟨γ66 0, 0, none⟩) 1 1)]) (fun γ66 L => bx (γ66 0) (#[.int .i64 x10.id]) 3 :: L) (fun γ66 => ops_append (α := Int) [bx (γ66 0) (#[.int .i64 x10.id]) 3, bx (γ11 0) (#[.int .i64 x10.id, .int .i64 x10.each, .int .u64 x10.th, .int .u64 x10.tl, .int .u64 x10.tw]) 67, bx (γ2 0) (#[.slice po nu co, .int .u64 x10.th, .int .u64 x10.tl, .int .u64 x10.tw, .int .u64 od, .bool false]) 47, bx (γ1 1) (#[.slice none 0 0, .int .u64 0, .int .u64 0, .int .u64 0, .int .u64 0, .bool false]) 47, bx (γ1 0) (#[.slice (some ⟨b8, o8, none⟩) n cap]) 26] Yo ([]) (.refl _) rfl (by kernel_rfl) (by kernel_rfl) (p := po) (n := nu) (cap := co) (m := 1) (yv := .slice (some ⟨γ66 0, 0, none⟩) 1 1) (by kernel_rfl) (by kernel_rfl) (T := 3) (by_ := 8) (by kernel_rfl) (memS (pairsV ts ws) ml j) ([x10.id]) hO (fun w hw => src_svn Try.underlying40 (sv_row (hw.row 0 rfl) (by rfl)) (by rfl)) (by rfl) (by have hmx : maxLen = 9223372036854775807 := rfl; omega) (by have hmx : maxLen = 9223372036854775807 := rfl; omega) (fun Y67 p67 cap67 hO67 => mo0 2 [(7, .go (owns 2 0 1))] [1, 2, 6, 8, 13, 14, 15] (fun _ => []) (fun _ L => (L.set 2 (bx (γ2 0) (#[.slice p67 (nu + 1) cap67, .int .u64 x10.th, .int .u64 x10.tl, .int .u64 x10.tw, .int .u64 od, .bool false]) 47))) (fun _ => on_ (done_block (ds_ (qa [(0, .fit)] [1, 2, 6, 8, 13, 14] [(15, .int .i64 (j + 1 : Nat))] ([Fit .i64 ((j + 1 : Nat))]) (al1 (fit64 (by omega) (by omega))) (Done.pick [[bx (γ66 0) (#[.int .i64 x10.id]) 3], [bx (γ11 0) (#[.int .i64 x10.id, .int .i64 x10.each, .int .u64 x10.th, .int .u64 x10.tl, .int .u64 x10.tw]) 67], [bx (γ2 0) (#[.slice p67 (nu + 1) cap67, .int .u64 x10.th, .int .u64 x10.tl, .int .u64 x10.tw, .int .u64 od, .bool false]) 47], [bx (γ1 1) (#[.slice none 0 0, .int .u64 0, .int .u64 0, .int .u64 0, .int .u64 0, .bool false]) 47], [bx (γ1 0) (#[.slice (some ⟨b8, o8, none⟩) n cap]) 26], Y67] [2, 3, 4, 5] [0, 1] (bx (γ2 0) (#[.slice p67 (nu + 1) cap67, .int .u64 x10.th, .int .u64 x10.tl, .int .u64 x10.tw, .int .u64 od, .bool false]) 47 :: bx (γ1 1) (#[.slice none 0 0, .int .u64 0, .int .u64 0, .int .u64 0, .int .u64 0, .bool false]) 47 :: bx (γ1 0) (#[.slice (some ⟨b8, o8, none⟩) n cap]) 26 :: (Y67 ++ [])) (by kernel_rfl) rfl rfl ?_))))))))))
       have hz := pairs_at hx10 hx47
       exact dr [1, 2, 6, 8, 13, 14, 15] (j + 1, Y67, p67, (nu + 1), cap67, x10.t, od, false) ⟨by omega, by omega, hUx10.t, fun _ => hok x10 (List.mem_of_getElem? hx10), by rw [sel_yes hz q13, mems_yes hz q13, ent_more hE (sel_ne (by omega)), if_pos q41, if_neg q49]; exact congrArg (En.mk _ _ _) (Eq.symm (show false = (fb && x47.fresh) from by rw [q64]; rfl)), by rw [mems_yes hz q13]; exact hO67⟩
      ·
       refine ma [(1, .go (owns 1 5 1)), (5, .at b45 o45 j), (7, .go (outs b45 (o45 + j * 3 + 2) [.bool x47.fresh])), (10, .go (owns 1 5 1))] [1, 2, 6, 8, 10, 13, 14, 15] (fun _ => []) (fun _ L => (L.set 1 (bx (γ2 0) (#[.slice po nu co, .int .u64 x10.th, .int .u64 x10.tl, .int .u64 x10.tw, .int .u64 od, .bool x47.fresh]) 47))) (fun _ => [(some ⟨b45, o45, none⟩ : Option Addr) = some ⟨b45, o45, none⟩, (j : Nat) = ((j : Nat) : Int), j < nw] ++ (cellsP w b45 (o45 + j * 3 + 2) [.bool x47.fresh])) (fun _ => (alA (al2 rfl (al2 rfl (al1 (by omega)))) (rd_part (hws.get hx47) 2 _ rfl))) (fun _ => ds_ (ao_ (mo0 5 [(1, .go (owns 1 0 1)), (3, .go (owns 0 0 1))] [1, 2, 6, 8, 13, 14, 15] (fun γ71 => [(71, .slice po nu co), (74, .slice (some ⟨γ71 0, 0, none⟩) 1 1)]) (fun γ71 L => bx (γ71 0) (#[.int .i64 x10.id]) 3 :: L) (fun γ71 => ops_append (α := Int) [bx (γ71 0) (#[.int .i64 x10.id]) 3, bx (γ11 0) (#[.int .i64 x10.id, .int .i64 x10.each, .int .u64 x10.th, .int .u64 x10.tl, .int .u64 x10.tw]) 67, bx (γ2 0) (#[.slice po nu co, .int .u64 x10.th, .int .u64 x10.tl, .int .u64 x10.tw, .int .u64 od, .bool x47.fresh]) 47, bx (γ1 1) (#[.slice none 0 0, .int .u64 0, .int .u64 0, .int .u64 0, .int .u64 0, .bool false]) 47, bx (γ1 0) (#[.slice (some ⟨b8, o8, none⟩) n cap]) 26] Yo ([]) (.refl _) rfl (by kernel_rfl) (by kernel_rfl) (p := po) (n := nu) (cap := co) (m := 1) (yv := .slice (some ⟨γ71 0, 0, none⟩) 1 1) (by kernel_rfl) (by kernel_rfl) (T := 3) (by_ := 8) (by kernel_rfl) (memS (pairsV ts ws) ml j) ([x10.id]) hO (fun w hw => src_svn Try.underlying40 (sv_row (hw.row 0 rfl) (by rfl)) (by rfl)) (by rfl) (by have hmx : maxLen = 9223372036854775807 := rfl; omega) (by have hmx : maxLen = 9223372036854775807 := rfl; omega) (fun Y72 p72 cap72 hO72 => mo0 2 [(7, .go (owns 2 0 1))] [1, 2, 6, 8, 13, 14, 15] (fun _ => []) (fun _ L => (L.set 2 (bx (γ2 0) (#[.slice p72 (nu + 1) cap72, .int .u64 x10.th, .int .u64 x10.tl, .int .u64 x10.tw, .int .u64 od, .bool x47.fresh]) 47))) (fun _ => on_ (done_block (ds_ (qa [(0, .fit)] [1, 2, 6, 8, 13, 14] [(15, .int .i64 (j + 1 : Nat))] ([Fit .i64 ((j + 1 : Nat))]) (al1 (fit64 (by omega) (by omega))) (Done.pick [[bx (γ71 0) (#[.int .i64 x10.id]) 3], [bx (γ11 0) (#[.int .i64 x10.id, .int .i64 x10.each, .int .u64 x10.th, .int .u64 x10.tl, .int .u64 x10.tw]) 67], [bx (γ2 0) (#[.slice p72 (nu + 1) cap72, .int .u64 x10.th, .int .u64 x10.tl, .int .u64 x10.tw, .int .u64 od, .bool x47.fresh]) 47], [bx (γ1 1) (#[.slice none 0 0, .int .u64 0, .int .u64 0, .int .u64 0, .int .u64 0, .bool false]) 47], [bx (γ1 0) (#[.slice (some ⟨b8, o8, none⟩) n cap]) 26], Y72] [2, 3, 4, 5] [0, 1] (bx (γ2 0) (#[.slice p72 (nu + 1) cap72, .int .u64 x10.th, .int .u64 x10.tl, .int .u64 x10.tw, .int .u64 od, .bool x47.fresh]) 47 :: bx (γ1 1) (#[.slice none 0 0, .int .u64 0, .int .u64 0, .int .u64 0, .int .u64 0, .bool false]) 47 :: bx (γ1 0) (#[.slice (some ⟨b8, o8, none⟩) n cap]) 26 :: (Y72 ++ [])) (by kernel_rfl) rfl rfl ?_))))))))))
       have hz := pairs_at hx10 hx47
       exact dr [1, 2, 6, 8, 13, 14, 15] (j + 1, Y72, p72, (nu + 1), cap72, x10.t, od, x47.fresh) ⟨by omega, by omega, hUx10.t, fun _ => hok x10 (List.mem_of_getElem? hx10), by rw [sel_yes hz q13, mems_yes hz q13, ent_more hE (sel_ne (by omega)), if_pos q41, if_neg q49]; exact congrArg (En.mk _ _ _) (Eq.symm (show x47.fresh = (fb && x47.fresh) from by rw [q64]; rw [Bool.true_and])), by rw [mems_yes hz q13]; exact hO72⟩
    ·
     refine qo 2 [(10, .no)] [1, 2, 6, 8, 9, 10, 13, 14, 15] [(36, .bool false)] ([¬ (((cmpF x10.t f) : Int) > (0 : Int))]) (al1 q41) (on_ (ds_ (f_ (at_skip (ds_ (sq_ (sq_ ?_)))))))
     obtain ⟨b77, o77, rfl⟩ := hws.pos (i := j) (by omega)
     obtain ⟨x79, hx79⟩ := get_some (l := ws) (m := j) (by omega)
     have hWx79 := hWU x79 (List.mem_of_getElem? hx79)
     by_cases q81 : (x79.ord : Int) < (od : Int)
     ·
      refine cq [(1, .go (owns 1 0 1)), (3, .no), (7, .at b77 o77 j), (9, .go (outs b77 (o77 + j * 3 + 1) [.int .u64 x79.ord])), (11, .go (owns 1 4 1)), (12, .yes)] [1, 2, 6, 8, 9, 10, 13, 14, 15] [(53, .bool true)] ([¬ (((nu : Nat) : Int) = (0 : Int))] ++ ([(some ⟨b77, o77, none⟩ : Option Addr) = some ⟨b77, o77, none⟩, (j : Nat) = ((j : Nat) : Int), j < nw] ++ (cellsP w b77 (o77 + j * 3 + 1) [.int .u64 x79.ord] ++ ([(x79.ord : Int) < (od : Int)])))) rfl (by kernel_rfl) (by kernel_rfl) (by kernel_rfl) (alA (al1 q19) (alA (al2 rfl (al2 rfl (al1 (by omega)))) (alA (rd_part (hws.get hx79) 1 _ rfl) (al1 q81)))) (ds_ (t_ (ma [(2, .at b77 o77 j), (4, .go (outs b77 (o77 + j * 3 + 1) [.int .u64 x79.ord])), (6, .go (owns 1 4 1))] [1, 2, 6, 8, 9, 10, 13, 14, 15] (fun _ => []) (fun _ L => (L.set 1 (bx (γ2 0) (#[.slice po nu co, .int .u64 f.hi, .int .u64 f.lo, .int .u64 f.w, .int .u64 x79.ord, .bool fb]) 47))) (fun _ => [(some ⟨b77, o77, none⟩ : Option Addr) = some ⟨b77, o77, none⟩, (j : Nat) = ((j : Nat) : Int), j < nw] ++ (cellsP w b77 (o77 + j * 3 + 1) [.int .u64 x79.ord])) (fun _ => (alA (al2 rfl (al2 rfl (al1 (by omega)))) (rd_part (hws.get hx79) 1 _ rfl))) (fun _ => ds_ (sq_ ?_)))))
      rcases q84 : fb with _ | _
      ·
       refine qa0 [(1, .go (owns 1 5 1)), (10, .go (owns 1 5 1))] [1, 2, 6, 8, 10, 13, 14, 15] [] (ds_ (ao_ (mo0 5 [(1, .go (owns 1 0 1)), (3, .go (owns 0 0 1))] [1, 2, 6, 8, 13, 14, 15] (fun γ86 => [(71, .slice po nu co), (74, .slice (some ⟨γ86 0, 0, none⟩) 1 1)]) (fun γ86 L => bx (γ86 0) (#[.int .i64 x10.id]) 3 :: L) (fun γ86 => ops_append (α := Int) [bx (γ86 0) (#[.int .i64 x10.id]) 3, bx (γ11 0) (#[.int .i64 x10.id, .int .i64 x10.each, .int .u64 x10.th, .int .u64 x10.tl, .int .u64 x10.tw]) 67, bx (γ2 0) (#[.slice po nu co, .int .u64 f.hi, .int .u64 f.lo, .int .u64 f.w, .int .u64 x79.ord, .bool false]) 47, bx (γ1 1) (#[.slice none 0 0, .int .u64 0, .int .u64 0, .int .u64 0, .int .u64 0, .bool false]) 47, bx (γ1 0) (#[.slice (some ⟨b8, o8, none⟩) n cap]) 26] Yo ([]) (.refl _) rfl (by kernel_rfl) (by kernel_rfl) (p := po) (n := nu) (cap := co) (m := 1) (yv := .slice (some ⟨γ86 0, 0, none⟩) 1 1) (by kernel_rfl) (by kernel_rfl) (T := 3) (by_ := 8) (by kernel_rfl) (memS (pairsV ts ws) ml j) ([x10.id]) hO (fun w hw => src_svn Try.underlying40 (sv_row (hw.row 0 rfl) (by rfl)) (by rfl)) (by rfl) (by have hmx : maxLen = 9223372036854775807 := rfl; omega) (by have hmx : maxLen = 9223372036854775807 := rfl; omega) (fun Y87 p87 cap87 hO87 => mo0 2 [(7, .go (owns 2 0 1))] [1, 2, 6, 8, 13, 14, 15] (fun _ => []) (fun _ L => (L.set 2 (bx (γ2 0) (#[.slice p87 (nu + 1) cap87, .int .u64 f.hi, .int .u64 f.lo, .int .u64 f.w, .int .u64 x79.ord, .bool false]) 47))) (fun _ => on_ (done_block (ds_ (qa [(0, .fit)] [1, 2, 6, 8, 13, 14] [(15, .int .i64 (j + 1 : Nat))] ([Fit .i64 ((j + 1 : Nat))]) (al1 (fit64 (by omega) (by omega))) (Done.pick [[bx (γ86 0) (#[.int .i64 x10.id]) 3], [bx (γ11 0) (#[.int .i64 x10.id, .int .i64 x10.each, .int .u64 x10.th, .int .u64 x10.tl, .int .u64 x10.tw]) 67], [bx (γ2 0) (#[.slice p87 (nu + 1) cap87, .int .u64 f.hi, .int .u64 f.lo, .int .u64 f.w, .int .u64 x79.ord, .bool false]) 47], [bx (γ1 1) (#[.slice none 0 0, .int .u64 0, .int .u64 0, .int .u64 0, .int .u64 0, .bool false]) 47], [bx (γ1 0) (#[.slice (some ⟨b8, o8, none⟩) n cap]) 26], Y87] [2, 3, 4, 5] [0, 1] (bx (γ2 0) (#[.slice p87 (nu + 1) cap87, .int .u64 f.hi, .int .u64 f.lo, .int .u64 f.w, .int .u64 x79.ord, .bool false]) 47 :: bx (γ1 1) (#[.slice none 0 0, .int .u64 0, .int .u64 0, .int .u64 0, .int .u64 0, .bool false]) 47 :: bx (γ1 0) (#[.slice (some ⟨b8, o8, none⟩) n cap]) 26 :: (Y87 ++ [])) (by kernel_rfl) rfl rfl ?_))))))))))
       have hz := pairs_at hx10 hx79
       exact dr [1, 2, 6, 8, 13, 14, 15] (j + 1, Y87, p87, (nu + 1), cap87, f, x79.ord, false) ⟨by omega, by omega, hUf, fun _ => hfo (by omega), by rw [sel_yes hz q13, mems_yes hz q13, ent_more hE (sel_ne (by omega)), if_neg q41, if_pos q81]; exact congrArg (En.mk _ _ _) (Eq.symm (show false = (fb && x79.fresh) from by rw [q84]; rfl)), by rw [mems_yes hz q13]; exact hO87⟩
      ·
       refine ma [(1, .go (owns 1 5 1)), (5, .at b77 o77 j), (7, .go (outs b77 (o77 + j * 3 + 2) [.bool x79.fresh])), (10, .go (owns 1 5 1))] [1, 2, 6, 8, 10, 13, 14, 15] (fun _ => []) (fun _ L => (L.set 1 (bx (γ2 0) (#[.slice po nu co, .int .u64 f.hi, .int .u64 f.lo, .int .u64 f.w, .int .u64 x79.ord, .bool x79.fresh]) 47))) (fun _ => [(some ⟨b77, o77, none⟩ : Option Addr) = some ⟨b77, o77, none⟩, (j : Nat) = ((j : Nat) : Int), j < nw] ++ (cellsP w b77 (o77 + j * 3 + 2) [.bool x79.fresh])) (fun _ => (alA (al2 rfl (al2 rfl (al1 (by omega)))) (rd_part (hws.get hx79) 2 _ rfl))) (fun _ => ds_ (ao_ (mo0 5 [(1, .go (owns 1 0 1)), (3, .go (owns 0 0 1))] [1, 2, 6, 8, 13, 14, 15] (fun γ91 => [(71, .slice po nu co), (74, .slice (some ⟨γ91 0, 0, none⟩) 1 1)]) (fun γ91 L => bx (γ91 0) (#[.int .i64 x10.id]) 3 :: L) (fun γ91 => ops_append (α := Int) [bx (γ91 0) (#[.int .i64 x10.id]) 3, bx (γ11 0) (#[.int .i64 x10.id, .int .i64 x10.each, .int .u64 x10.th, .int .u64 x10.tl, .int .u64 x10.tw]) 67, bx (γ2 0) (#[.slice po nu co, .int .u64 f.hi, .int .u64 f.lo, .int .u64 f.w, .int .u64 x79.ord, .bool x79.fresh]) 47, bx (γ1 1) (#[.slice none 0 0, .int .u64 0, .int .u64 0, .int .u64 0, .int .u64 0, .bool false]) 47, bx (γ1 0) (#[.slice (some ⟨b8, o8, none⟩) n cap]) 26] Yo ([]) (.refl _) rfl (by kernel_rfl) (by kernel_rfl) (p := po) (n := nu) (cap := co) (m := 1) (yv := .slice (some ⟨γ91 0, 0, none⟩) 1 1) (by kernel_rfl) (by kernel_rfl) (T := 3) (by_ := 8) (by kernel_rfl) (memS (pairsV ts ws) ml j) ([x10.id]) hO (fun w hw => src_svn Try.underlying40 (sv_row (hw.row 0 rfl) (by rfl)) (by rfl)) (by rfl) (by have hmx : maxLen = 9223372036854775807 := rfl; omega) (by have hmx : maxLen = 9223372036854775807 := rfl; omega) (fun Y92 p92 cap92 hO92 => mo0 2 [(7, .go (owns 2 0 1))] [1, 2, 6, 8, 13, 14, 15] (fun _ => []) (fun _ L => (L.set 2 (bx (γ2 0) (#[.slice p92 (nu + 1) cap92, .int .u64 f.hi, .int .u64 f.lo, .int .u64 f.w, .int .u64 x79.ord, .bool x79.fresh]) 47))) (fun _ => on_ (done_block (ds_ (qa [(0, .fit)] [1, 2, 6, 8, 13, 14] [(15, .int .i64 (j + 1 : Nat))] ([Fit .i64 ((j + 1 : Nat))]) (al1 (fit64 (by omega) (by omega))) (Done.pick [[bx (γ91 0) (#[.int .i64 x10.id]) 3], [bx (γ11 0) (#[.int .i64 x10.id, .int .i64 x10.each, .int .u64 x10.th, .int .u64 x10.tl, .int .u64 x10.tw]) 67], [bx (γ2 0) (#[.slice p92 (nu + 1) cap92, .int .u64 f.hi, .int .u64 f.lo, .int .u64 f.w, .int .u64 x79.ord, .bool x79.fresh]) 47], [bx (γ1 1) (#[.slice none 0 0, .int .u64 0, .int .u64 0, .int .u64 0, .int .u64 0, .bool false]) 47], [bx (γ1 0) (#[.slice (some ⟨b8, o8, none⟩) n cap]) 26], Y92] [2, 3, 4, 5] [0, 1] (bx (γ2 0) (#[.slice p92 (nu + 1) cap92, .int .u64 f.hi, .int .u64 f.lo, .int .u64 f.w, .int .u64 x79.ord, .bool x79.fresh]) 47 :: bx (γ1 1) (#[.slice none 0 0, .int .u64 0, .int .u64 0, .int .u64 0, .int .u64 0, .bool false]) 47 :: bx (γ1 0) (#[.slice (some ⟨b8, o8, none⟩) n cap]) 26 :: (Y92 ++ [])) (by kernel_rfl) rfl rfl ?_))))))))))
       have hz := pairs_at hx10 hx79
       exact dr [1, 2, 6, 8, 13, 14, 15] (j + 1, Y92, p92, (nu + 1), cap92, f, x79.ord, x79.fresh) ⟨by omega, by omega, hUf, fun _ => hfo (by omega), by rw [sel_yes hz q13, mems_yes hz q13, ent_more hE (sel_ne (by omega)), if_neg q41, if_pos q81]; exact congrArg (En.mk _ _ _) (Eq.symm (show x79.fresh = (fb && x79.fresh) from by rw [q84]; rw [Bool.true_and])), by rw [mems_yes hz q13]; exact hO92⟩
     ·
      refine cq [(1, .go (owns 1 0 1)), (3, .no), (7, .at b77 o77 j), (9, .go (outs b77 (o77 + j * 3 + 1) [.int .u64 x79.ord])), (11, .go (owns 1 4 1)), (12, .no)] [1, 2, 6, 8, 9, 10, 13, 14, 15] [(53, .bool false)] ([¬ (((nu : Nat) : Int) = (0 : Int))] ++ ([(some ⟨b77, o77, none⟩ : Option Addr) = some ⟨b77, o77, none⟩, (j : Nat) = ((j : Nat) : Int), j < nw] ++ (cellsP w b77 (o77 + j * 3 + 1) [.int .u64 x79.ord] ++ ([¬ ((x79.ord : Int) < (od : Int))])))) rfl (by kernel_rfl) (by kernel_rfl) (by kernel_rfl) (alA (al1 q19) (alA (al2 rfl (al2 rfl (al1 (by omega)))) (alA (rd_part (hws.get hx79) 1 _ rfl) (al1 q81)))) (ds_ (f_ (at_skip (ds_ (sq_ ?_)))))
      rcases q96 : fb with _ | _
      ·
       refine qa0 [(1, .go (owns 1 5 1)), (10, .go (owns 1 5 1))] [1, 2, 6, 8, 10, 13, 14, 15] [] (ds_ (ao_ (mo0 5 [(1, .go (owns 1 0 1)), (3, .go (owns 0 0 1))] [1, 2, 6, 8, 13, 14, 15] (fun γ98 => [(71, .slice po nu co), (74, .slice (some ⟨γ98 0, 0, none⟩) 1 1)]) (fun γ98 L => bx (γ98 0) (#[.int .i64 x10.id]) 3 :: L) (fun γ98 => ops_append (α := Int) [bx (γ98 0) (#[.int .i64 x10.id]) 3, bx (γ11 0) (#[.int .i64 x10.id, .int .i64 x10.each, .int .u64 x10.th, .int .u64 x10.tl, .int .u64 x10.tw]) 67, bx (γ2 0) (#[.slice po nu co, .int .u64 f.hi, .int .u64 f.lo, .int .u64 f.w, .int .u64 od, .bool false]) 47, bx (γ1 1) (#[.slice none 0 0, .int .u64 0, .int .u64 0, .int .u64 0, .int .u64 0, .bool false]) 47, bx (γ1 0) (#[.slice (some ⟨b8, o8, none⟩) n cap]) 26] Yo ([]) (.refl _) rfl (by kernel_rfl) (by kernel_rfl) (p := po) (n := nu) (cap := co) (m := 1) (yv := .slice (some ⟨γ98 0, 0, none⟩) 1 1) (by kernel_rfl) (by kernel_rfl) (T := 3) (by_ := 8) (by kernel_rfl) (memS (pairsV ts ws) ml j) ([x10.id]) hO (fun w hw => src_svn Try.underlying40 (sv_row (hw.row 0 rfl) (by rfl)) (by rfl)) (by rfl) (by have hmx : maxLen = 9223372036854775807 := rfl; omega) (by have hmx : maxLen = 9223372036854775807 := rfl; omega) (fun Y99 p99 cap99 hO99 => mo0 2 [(7, .go (owns 2 0 1))] [1, 2, 6, 8, 13, 14, 15] (fun _ => []) (fun _ L => (L.set 2 (bx (γ2 0) (#[.slice p99 (nu + 1) cap99, .int .u64 f.hi, .int .u64 f.lo, .int .u64 f.w, .int .u64 od, .bool false]) 47))) (fun _ => on_ (done_block (ds_ (qa [(0, .fit)] [1, 2, 6, 8, 13, 14] [(15, .int .i64 (j + 1 : Nat))] ([Fit .i64 ((j + 1 : Nat))]) (al1 (fit64 (by omega) (by omega))) (Done.pick [[bx (γ98 0) (#[.int .i64 x10.id]) 3], [bx (γ11 0) (#[.int .i64 x10.id, .int .i64 x10.each, .int .u64 x10.th, .int .u64 x10.tl, .int .u64 x10.tw]) 67], [bx (γ2 0) (#[.slice p99 (nu + 1) cap99, .int .u64 f.hi, .int .u64 f.lo, .int .u64 f.w, .int .u64 od, .bool false]) 47], [bx (γ1 1) (#[.slice none 0 0, .int .u64 0, .int .u64 0, .int .u64 0, .int .u64 0, .bool false]) 47], [bx (γ1 0) (#[.slice (some ⟨b8, o8, none⟩) n cap]) 26], Y99] [2, 3, 4, 5] [0, 1] (bx (γ2 0) (#[.slice p99 (nu + 1) cap99, .int .u64 f.hi, .int .u64 f.lo, .int .u64 f.w, .int .u64 od, .bool false]) 47 :: bx (γ1 1) (#[.slice none 0 0, .int .u64 0, .int .u64 0, .int .u64 0, .int .u64 0, .bool false]) 47 :: bx (γ1 0) (#[.slice (some ⟨b8, o8, none⟩) n cap]) 26 :: (Y99 ++ [])) (by kernel_rfl) rfl rfl ?_))))))))))
       have hz := pairs_at hx10 hx79
       exact dr [1, 2, 6, 8, 13, 14, 15] (j + 1, Y99, p99, (nu + 1), cap99, f, od, false) ⟨by omega, by omega, hUf, fun _ => hfo (by omega), by rw [sel_yes hz q13, mems_yes hz q13, ent_more hE (sel_ne (by omega)), if_neg q41, if_neg q81]; exact congrArg (En.mk _ _ _) (Eq.symm (show false = (fb && x79.fresh) from by rw [q96]; rfl)), by rw [mems_yes hz q13]; exact hO99⟩
      ·
       refine ma [(1, .go (owns 1 5 1)), (5, .at b77 o77 j), (7, .go (outs b77 (o77 + j * 3 + 2) [.bool x79.fresh])), (10, .go (owns 1 5 1))] [1, 2, 6, 8, 10, 13, 14, 15] (fun _ => []) (fun _ L => (L.set 1 (bx (γ2 0) (#[.slice po nu co, .int .u64 f.hi, .int .u64 f.lo, .int .u64 f.w, .int .u64 od, .bool x79.fresh]) 47))) (fun _ => [(some ⟨b77, o77, none⟩ : Option Addr) = some ⟨b77, o77, none⟩, (j : Nat) = ((j : Nat) : Int), j < nw] ++ (cellsP w b77 (o77 + j * 3 + 2) [.bool x79.fresh])) (fun _ => (alA (al2 rfl (al2 rfl (al1 (by omega)))) (rd_part (hws.get hx79) 2 _ rfl))) (fun _ => ds_ (ao_ (mo0 5 [(1, .go (owns 1 0 1)), (3, .go (owns 0 0 1))] [1, 2, 6, 8, 13, 14, 15] (fun γ103 => [(71, .slice po nu co), (74, .slice (some ⟨γ103 0, 0, none⟩) 1 1)]) (fun γ103 L => bx (γ103 0) (#[.int .i64 x10.id]) 3 :: L) (fun γ103 => ops_append (α := Int) [bx (γ103 0) (#[.int .i64 x10.id]) 3, bx (γ11 0) (#[.int .i64 x10.id, .int .i64 x10.each, .int .u64 x10.th, .int .u64 x10.tl, .int .u64 x10.tw]) 67, bx (γ2 0) (#[.slice po nu co, .int .u64 f.hi, .int .u64 f.lo, .int .u64 f.w, .int .u64 od, .bool x79.fresh]) 47, bx (γ1 1) (#[.slice none 0 0, .int .u64 0, .int .u64 0, .int .u64 0, .int .u64 0, .bool false]) 47, bx (γ1 0) (#[.slice (some ⟨b8, o8, none⟩) n cap]) 26] Yo ([]) (.refl _) rfl (by kernel_rfl) (by kernel_rfl) (p := po) (n := nu) (cap := co) (m := 1) (yv := .slice (some ⟨γ103 0, 0, none⟩) 1 1) (by kernel_rfl) (by kernel_rfl) (T := 3) (by_ := 8) (by kernel_rfl) (memS (pairsV ts ws) ml j) ([x10.id]) hO (fun w hw => src_svn Try.underlying40 (sv_row (hw.row 0 rfl) (by rfl)) (by rfl)) (by rfl) (by have hmx : maxLen = 9223372036854775807 := rfl; omega) (by have hmx : maxLen = 9223372036854775807 := rfl; omega) (fun Y104 p104 cap104 hO104 => mo0 2 [(7, .go (owns 2 0 1))] [1, 2, 6, 8, 13, 14, 15] (fun _ => []) (fun _ L => (L.set 2 (bx (γ2 0) (#[.slice p104 (nu + 1) cap104, .int .u64 f.hi, .int .u64 f.lo, .int .u64 f.w, .int .u64 od, .bool x79.fresh]) 47))) (fun _ => on_ (done_block (ds_ (qa [(0, .fit)] [1, 2, 6, 8, 13, 14] [(15, .int .i64 (j + 1 : Nat))] ([Fit .i64 ((j + 1 : Nat))]) (al1 (fit64 (by omega) (by omega))) (Done.pick [[bx (γ103 0) (#[.int .i64 x10.id]) 3], [bx (γ11 0) (#[.int .i64 x10.id, .int .i64 x10.each, .int .u64 x10.th, .int .u64 x10.tl, .int .u64 x10.tw]) 67], [bx (γ2 0) (#[.slice p104 (nu + 1) cap104, .int .u64 f.hi, .int .u64 f.lo, .int .u64 f.w, .int .u64 od, .bool x79.fresh]) 47], [bx (γ1 1) (#[.slice none 0 0, .int .u64 0, .int .u64 0, .int .u64 0, .int .u64 0, .bool false]) 47], [bx (γ1 0) (#[.slice (some ⟨b8, o8, none⟩) n cap]) 26], Y104] [2, 3, 4, 5] [0, 1] (bx (γ2 0) (#[.slice p104 (nu + 1) cap104, .int .u64 f.hi, .int .u64 f.lo, .int .u64 f.w, .int .u64 od, .bool x79.fresh]) 47 :: bx (γ1 1) (#[.slice none 0 0, .int .u64 0, .int .u64 0, .int .u64 0, .int .u64 0, .bool false]) 47 :: bx (γ1 0) (#[.slice (some ⟨b8, o8, none⟩) n cap]) 26 :: (Y104 ++ [])) (by kernel_rfl) rfl rfl ?_))))))))))
       have hz := pairs_at hx10 hx79
       exact dr [1, 2, 6, 8, 13, 14, 15] (j + 1, Y104, p104, (nu + 1), cap104, f, od, x79.fresh) ⟨by omega, by omega, hUf, fun _ => hfo (by omega), by rw [sel_yes hz q13, mems_yes hz q13, ent_more hE (sel_ne (by omega)), if_neg q41, if_neg q81]; exact congrArg (En.mk _ _ _) (Eq.symm (show x79.fresh = (fb && x79.fresh) from by rw [q96]; rw [Bool.true_and])), by rw [mems_yes hz q13]; exact hO104⟩
 ·
  refine qa [(0, .no)] [1, 2, 6, 8, 13, 14, 15] [(16, .bool false)] ([¬ (((j : Nat) : Int) < ((n : Nat) : Int))]) (al1 q5) (ds_ (sq_ (f_ (at_leave _ rfl (ds_ (sq_ ?_))))))
  by_cases q109 : ((nu : Nat) : Int) > (0 : Int)
  ·
   refine at_any (by kernel_rfl) ?_
   refine tk (m := 6) [1] [] [6, 8] [(79, .pointer (some ⟨γ2 0, 0, none⟩))] ([]) #[false, true, false, false, false, false, false] al0 ?_
   refine any_cut 0 #[true, true, true, true, true, true, true] ([(6, .pointer (some ⟨γ1 1, 0, none⟩)), (7, .bool true)]) (bx (γ2 0) (#[.slice po nu co, .int .u64 f.hi, .int .u64 f.lo, .int .u64 f.w, .int .u64 od, .bool fb]) 47 :: bx (γ1 1) (#[.slice po nu co, .int .u64 f.hi, .int .u64 f.lo, .int .u64 f.w, .int .u64 od, .bool fb]) 47 :: bx (γ1 0) (#[.slice p n cap]) 26 :: (Yo ++ [])) ?_ (fun hm => ?_)
   rotate_left
   ·
    refine any_fork [0, 2] (by kernel_rfl) (by simp) (each_cons _ rfl ?_ (each_cons _ rfl ?_ (each_nil)))
    ·
     refine qo0 1 [(0, .go (owns 0 0 6))] [6, 79] [(78, .agg #[.slice po nu co, .int .u64 f.hi, .int .u64 f.lo, .int .u64 f.w, .int .u64 od, .bool fb])] ?_
     refine od_ ?_
     refine any_fork [2, 5] (by kernel_rfl) (by simp) (each_cons _ rfl ?_ (each_cons _ rfl ?_ (each_nil)))
     ·
      refine qo0 1 [(2, .go (owns 0 0 1))] [6, 78] [(80, .slice po nu co)] ?_
      refine od_ ?_
      refine tk (m := 2) [3, 4] [(4, .yes)] [6, 78] [(82, .bool true)] ([((nu : Nat) : Int) > (0 : Int)]) #[true, true, true, true, true, false, false] (al1 q109) ?_
      refine a1 5 rfl ?_
      refine mo0 1 [(5, .go (owns 1 0 6))] [6, 82] (fun _ => []) (fun _ L => (L.set 1 (bx (γ1 1) (#[.slice po nu co, .int .u64 f.hi, .int .u64 f.lo, .int .u64 f.w, .int .u64 od, .bool fb]) 47))) (fun _ => ?_)
      refine od_ ?_
      refine tk (m := 0) [6] [] [6] [(7, .bool true)] ([]) #[true, true, true, true, true, true, true] al0 ?_
      exact any_weak hm [6, 7] (by kernel_rfl) rfl rfl rfl
     ·
      refine mo0 1 [(5, .go (owns 1 0 6))] [6, 79] (fun _ => []) (fun _ L => (L.set 1 (bx (γ1 1) (#[.slice po nu co, .int .u64 f.hi, .int .u64 f.lo, .int .u64 f.w, .int .u64 od, .bool fb]) 47))) (fun _ => ?_)
      refine od_ ?_
      refine a1 2 rfl ?_
      refine qo0 1 [(2, .go (owns 0 0 1))] [6] [(80, .slice po nu co)] ?_
      refine od_ ?_
      refine tk (m := 0) [3, 4, 6] [(4, .yes)] [6] [(7, .bool true)] ([((nu : Nat) : Int) > (0 : Int)]) #[true, true, true, true, true, true, true] (al1 q109) ?_
      exact any_weak hm [6, 7] (by kernel_rfl) rfl rfl rfl
    ·
     refine qo0 1 [(2, .go (owns 0 0 1))] [6, 8] [(80, .slice po nu co)] ?_
     refine od_ ?_
     refine tk (m := 3) [3, 4] [(4, .yes)] [6, 8] [(82, .bool true)] ([((nu : Nat) : Int) > (0 : Int)]) #[false, true, true, true, true, false, false] (al1 q109) ?_
     refine a1 0 rfl ?_
     refine qo0 1 [(0, .go (owns 0 0 6))] [6, 82] [(78, .agg #[.slice po nu co, .int .u64 f.hi, .int .u64 f.lo, .int .u64 f.w, .int .u64 od, .bool fb])] ?_
     refine od_ ?_
     refine a1 5 rfl ?_
     refine mo0 1 [(5, .go (owns 1 0 6))] [6, 82] (fun _ => []) (fun _ L => (L.set 1 (bx (γ1 1) (#[.slice po nu co, .int .u64 f.hi, .int .u64 f.lo, .int .u64 f.w, .int .u64 od, .bool fb]) 47))) (fun _ => ?_)
     refine od_ ?_
     refine tk (m := 0) [6] [] [6] [(7, .bool true)] ([]) #[true, true, true, true, true, true, true] al0 ?_
     exact any_weak hm [6, 7] (by kernel_rfl) rfl rfl rfl
   refine any_nil (by kernel_rfl) ?_
   refine ds_ (rt (owns 1 0 6) (.tuple #[.agg #[.slice po nu co, .int .u64 f.hi, .int .u64 f.lo, .int .u64 f.w, .int .u64 od, .bool fb], .bool true]) ?_)
   rw [sel_all (by rw [pairs_len hlw]; omega)] at hE
   have hm9 : (memS (pairsV ts ws) ml j) = (entR ((pairsV ts ws).filter fun p => decide (p.r.id ∈ ml))).mem := by rw [hE]
   have hem : ((pairsV ts ws).filter fun p => decide (p.r.id ∈ ml)).isEmpty = false := by
    have h1 : (entR ((pairsV ts ws).filter fun p => decide (p.r.id ∈ ml))).mem.length = nu := by rw [← hm9]; exact hlo.symm
    rw [entR_mem, List.length_map] at h1
    cases hF : ((pairsV ts ws).filter fun p => decide (p.r.id ∈ ml)) with
    | nil => rw [hF] at h1; simp at h1; omega
    | cons a r => rfl
   rw [hE, hem]
   exact fun w' hw => ⟨_, _, _, _, rfl, hO, hUf, hw.below, one_tail14 (Hs.pick [[bx (γ2 0) (#[.slice po nu co, .int .u64 f.hi, .int .u64 f.lo, .int .u64 f.w, .int .u64 od, .bool fb]) 47], [bx (γ1 1) (#[.slice po nu co, .int .u64 f.hi, .int .u64 f.lo, .int .u64 f.w, .int .u64 od, .bool fb]) 47], [bx (γ1 0) (#[.slice p n cap]) 26], Yo] [3] [0, 1, 2] (by kernel_rfl) hw)⟩
  ·
   refine at_any (by kernel_rfl) ?_
   refine tk (m := 6) [1] [] [6, 8] [(79, .pointer (some ⟨γ2 0, 0, none⟩))] ([]) #[false, true, false, false, false, false, false] al0 ?_
   refine any_cut 0 #[true, true, true, true, true, true, true] ([(6, .pointer (some ⟨γ1 1, 0, none⟩)), (7, .bool false)]) (bx (γ2 0) (#[.slice po nu co, .int .u64 f.hi, .int .u64 f.lo, .int .u64 f.w, .int .u64 od, .bool fb]) 47 :: bx (γ1 1) (#[.slice po nu co, .int .u64 f.hi, .int .u64 f.lo, .int .u64 f.w, .int .u64 od, .bool fb]) 47 :: bx (γ1 0) (#[.slice p n cap]) 26 :: (Yo ++ [])) ?_ (fun hm => ?_)
   rotate_left
   ·
    refine any_fork [0, 2] (by kernel_rfl) (by simp) (each_cons _ rfl ?_ (each_cons _ rfl ?_ (each_nil)))
    ·
     refine qo0 1 [(0, .go (owns 0 0 6))] [6, 79] [(78, .agg #[.slice po nu co, .int .u64 f.hi, .int .u64 f.lo, .int .u64 f.w, .int .u64 od, .bool fb])] ?_
     refine od_ ?_
     refine any_fork [2, 5] (by kernel_rfl) (by simp) (each_cons _ rfl ?_ (each_cons _ rfl ?_ (each_nil)))
     ·
      refine qo0 1 [(2, .go (owns 0 0 1))] [6, 78] [(80, .slice po nu co)] ?_
      refine od_ ?_
      refine tk (m := 2) [3, 4] [(4, .no)] [6, 78] [(82, .bool false)] ([¬ (((nu : Nat) : Int) > (0 : Int))]) #[true, true, true, true, true, false, false] (al1 q109) ?_
      refine a1 5 rfl ?_
      refine mo0 1 [(5, .go (owns 1 0 6))] [6, 82] (fun _ => []) (fun _ L => (L.set 1 (bx (γ1 1) (#[.slice po nu co, .int .u64 f.hi, .int .u64 f.lo, .int .u64 f.w, .int .u64 od, .bool fb]) 47))) (fun _ => ?_)
      refine od_ ?_
      refine tk (m := 0) [6] [] [6] [(7, .bool false)] ([]) #[true, true, true, true, true, true, true] al0 ?_
      exact any_weak hm [6, 7] (by kernel_rfl) rfl rfl rfl
     ·
      refine mo0 1 [(5, .go (owns 1 0 6))] [6, 79] (fun _ => []) (fun _ L => (L.set 1 (bx (γ1 1) (#[.slice po nu co, .int .u64 f.hi, .int .u64 f.lo, .int .u64 f.w, .int .u64 od, .bool fb]) 47))) (fun _ => ?_)
      refine od_ ?_
      refine a1 2 rfl ?_
      refine qo0 1 [(2, .go (owns 0 0 1))] [6] [(80, .slice po nu co)] ?_
      refine od_ ?_
      refine tk (m := 0) [3, 4, 6] [(4, .no)] [6] [(7, .bool false)] ([¬ (((nu : Nat) : Int) > (0 : Int))]) #[true, true, true, true, true, true, true] (al1 q109) ?_
      exact any_weak hm [6, 7] (by kernel_rfl) rfl rfl rfl
    ·
     refine qo0 1 [(2, .go (owns 0 0 1))] [6, 8] [(80, .slice po nu co)] ?_
     refine od_ ?_
     refine tk (m := 3) [3, 4] [(4, .no)] [6, 8] [(82, .bool false)] ([¬ (((nu : Nat) : Int) > (0 : Int))]) #[false, true, true, true, true, false, false] (al1 q109) ?_
     refine a1 0 rfl ?_
     refine qo0 1 [(0, .go (owns 0 0 6))] [6, 82] [(78, .agg #[.slice po nu co, .int .u64 f.hi, .int .u64 f.lo, .int .u64 f.w, .int .u64 od, .bool fb])] ?_
     refine od_ ?_
     refine a1 5 rfl ?_
     refine mo0 1 [(5, .go (owns 1 0 6))] [6, 82] (fun _ => []) (fun _ L => (L.set 1 (bx (γ1 1) (#[.slice po nu co, .int .u64 f.hi, .int .u64 f.lo, .int .u64 f.w, .int .u64 od, .bool fb]) 47))) (fun _ => ?_)
     refine od_ ?_
     refine tk (m := 0) [6] [] [6] [(7, .bool false)] ([]) #[true, true, true, true, true, true, true] al0 ?_
     exact any_weak hm [6, 7] (by kernel_rfl) rfl rfl rfl
   refine any_nil (by kernel_rfl) ?_
   refine ds_ (rt (owns 1 0 6) (.tuple #[.agg #[.slice po nu co, .int .u64 f.hi, .int .u64 f.lo, .int .u64 f.w, .int .u64 od, .bool fb], .bool false]) ?_)
   rw [sel_all (by rw [pairs_len hlw]; omega)] at hE
   have hm9 : (memS (pairsV ts ws) ml j) = (entR ((pairsV ts ws).filter fun p => decide (p.r.id ∈ ml))).mem := by rw [hE]
   have hem : ((pairsV ts ws).filter fun p => decide (p.r.id ∈ ml)).isEmpty = true := by
    have h1 : (entR ((pairsV ts ws).filter fun p => decide (p.r.id ∈ ml))).mem.length = nu := by rw [← hm9]; exact hlo.symm
    rw [entR_mem, List.length_map] at h1
    cases hF : ((pairsV ts ws).filter fun p => decide (p.r.id ∈ ml)) with
    | nil => rfl
    | cons a r => rw [hF] at h1; simp at h1; omega
   rw [hE, hem]
   exact fun w' hw => ⟨_, _, _, _, rfl, hO, hUf, hw.below, one_tail14 (Hs.pick [[bx (γ2 0) (#[.slice po nu co, .int .u64 f.hi, .int .u64 f.lo, .int .u64 f.w, .int .u64 od, .bool fb]) 47], [bx (γ1 1) (#[.slice po nu co, .int .u64 f.hi, .int .u64 f.lo, .int .u64 f.w, .int .u64 od, .bool fb]) 47], [bx (γ1 0) (#[.slice p n cap]) 26], Yo] [3] [0, 1, 2] (by kernel_rfl) hw)⟩
end Go.Proofs.Ytoljahfofkmdaaa

/-! Order: the document's entities. -/
namespace Go.Proofs.Ytoljahfofkmdaaa
open Go Go.RowKit
theorem entR_o {ts : List Rn} {ws : List Wt} {m : List Int} (hWU : ∀ x ∈ ws, x.U) : 0 ≤ (entR ((pairsV ts ws).filter fun p => decide (p.r.id ∈ m))).ord ∧ (entR ((pairsV ts ws).filter fun p => decide (p.r.id ∈ m))).ord < 18446744073709551616 := by
  unfold entR
  split
  · exact ⟨Int.le_refl _, by decide⟩
  · next h =>
    have hl : ∀ p ∈ (pairsV ts ws).filter fun p => decide (p.r.id ∈ m), 0 ≤ p.w.ord ∧ p.w.ord < 18446744073709551616 := fun p hp => by have := hWU p.w (pairs_mem (List.mem_filter.1 hp).1).2; exact ⟨this.o0, this.o1⟩
    exact one_o (P := fun o => 0 ≤ o ∧ o < 18446744073709551616) (by simpa using h) hl

set_option maxRecDepth 100000 in
theorem rents_t (p : Option Addr) (n cap : Nat) (ts : List Rn) (pw : Option Addr) (nw capw : Nat) (ws : List Wt) (q : Option Addr) (m capq : Nat) (al : List IntsA) (w : World)
    (hts : Sv w p ts) (hn : n = ts.length) (hb : n ≤ 1000)
    (hU : ∀ r ∈ ts, r.U)
    (hws : Sv w pw ws) (hnw : nw = ws.length) (hbw : nw ≤ 1000)
    (hWU : ∀ x ∈ ws, x.U)
    (hal : Sv w q al) (hma : m = al.length) (hbm : m ≤ 1000) (hnm : ∀ x ∈ al, x.Reads w) (hm9 : ∀ x ∈ al, x.n ≤ 1000)
    (hlw : ts.length = ws.length)
    (hok : ∀ r ∈ ts, r.t.ok = true)
    : Calls Try.prog 16 #[.agg #[.slice p n cap], .slice pw nw capw, .slice q m capq] w fun e w' => ∃ q' n' c' Yo Yi el, e = .returned (.slice q' n' c') ∧ SlO 47 Yo q' n' c' el ∧ GotE 3 Yi el ∧ el.map EnA.val = docV ts ws (al.map IntsA.l) ∧ (∀ x ∈ el, x.U) ∧ Below w.heap.size w w' ∧ Hs w (Yo ++ Yi) w' := by
  refine enter (Hs.start w) Try.func16 rfl Try.ntmps16 rfl (sq_ (ma0 [] [1, 2] (fun γ1 => [(3, .pointer (some ⟨γ1 0, 0, none⟩))]) (fun γ1 L => bx (γ1 0) (#[.slice p n cap]) 26 :: L) (fun γ1 => ds_ (sq_ (ao_ (mo0 2 [] [1, 2, 3] (fun γ2 => [(22, .slice (some ⟨γ2 0, 0, none⟩) 0 0), (23, .slice q m capq)]) (fun γ2 L => bx (γ2 0) (#[]) 40 :: L) (fun γ2 => ops_append (α := IntsA) [bx (γ1 0) (#[.slice p n cap]) 26] ([bx (γ2 0) (#[]) 40]) ([]) (mvE rfl) rfl (by kernel_rfl) (by kernel_rfl) (p := (some ⟨γ2 0, 0, none⟩)) (n := 0) (cap := 0) (m := m) (yv := .slice q m capq) (by kernel_rfl) (by kernel_rfl) (T := 40) (by_ := 24) (by kernel_rfl) ([]) al (SlO.lit (by rfl) (by rfl) (by simp [maxLen])) (fun w hw => src_svn Try.underlying28 (hal.kept hw.below) hma) hma (by have hmx : maxLen = 9223372036854775807 := rfl; omega) (by have hmx : maxLen = 9223372036854775807 := rfl; omega) (fun Y3 p3 cap3 hO3 => qo0 1 [] [1, 2, 3] [(7, .slice p3 (0 + m) cap3)] (on_ (ds_ (sq_ (sq_ (qa0 [(1, .go (owns 0 0 1))] [1, 2, 3, 7] [(26, .slice p n cap), (27, .int .i64 (n : Nat)), (28, .int .i64 0)] (ds_ (at_block (at_loop (α := Nat × List Ob × Option Addr × Nat × Nat × List IntsA × List Ob) [1, 2, 3, 7, 26, 27, 28] (fun ⟨j, Yo, po, nu, co, sl, Yi⟩ => [(1, .slice pw nw capw), (2, .slice q m capq), (3, .pointer (some ⟨γ1 0, 0, none⟩)), (7, .slice po nu co), (26, .slice p n cap), (27, .int .i64 (n : Nat)), (28, .int .i64 (j : Nat))]) (fun ⟨j, Yo, po, nu, co, sl, Yi⟩ => bx (γ1 0) (#[.slice p n cap]) 26 :: (Yo ++ (Yi ++ []))) (fun ⟨j, Yo, po, nu, co, sl, Yi⟩ => j ≤ n ∧ nu ≤ m + j ∧ SlO 40 Yo po nu co (al ++ sl) ∧ GotR 3 Yi sl ∧ sl.map IntsA.l = ((ts.take j).filter (aloneD (al.map IntsA.l))).map fun r => [r.id]) (fun ⟨j, Yo, po, nu, co, sl, Yi⟩ => n - j) (0, Y3, p3, (0 + m), cap3, [], []) (by kernel_rfl) rfl ⟨Nat.zero_le _, by omega, SlO.asE hO3 (by rw [List.nil_append, List.append_nil]), GotR.nil, rfl⟩ ?_))))))))))))))))
  rintro ⟨j, Yo, po, nu, co, sl, Yi⟩
  rintro ⟨hj, hnu, hO, hG, hS⟩
  have hlo := hO.len
  refine sq_ ?_
  by_cases q7 : ((j : Nat) : Int) < ((n : Nat) : Int)
  ·
    refine qa [(0, .yes)] [1, 2, 3, 7, 26, 27, 28] [(29, .bool true)] ([((j : Nat) : Int) < ((n : Nat) : Int)]) (al1 q7) (ds_ (sq_ (t_ (at_skip (ds_ (sq_ (at_block (sq_ ?_))))))))
    obtain ⟨b10, o10, rfl⟩ := hts.pos (i := j) (by omega)
    obtain ⟨x12, hx12⟩ := get_some (l := ts) (m := j) (by omega)
    have hUx12 := hU x12 (List.mem_of_getElem? hx12)
    refine ma [(0, .at b10 o10 j), (1, .go (outs b10 (o10 + j * 5) [.int .i64 x12.id, .int .i64 x12.each, .int .u64 x12.th, .int .u64 x12.tl, .int .u64 x12.tw])), (3, .go (owns 0 0 5))] [1, 2, 3, 7, 26, 27, 28] (fun γ13 => [(9, .pointer (some ⟨γ13 0, 0, none⟩))]) (fun γ13 L => bx (γ13 0) (#[.int .i64 x12.id, .int .i64 x12.each, .int .u64 x12.th, .int .u64 x12.tl, .int .u64 x12.tw]) 67 :: L) (fun γ13 => [(some ⟨b10, o10, none⟩ : Option Addr) = some ⟨b10, o10, none⟩, (j : Nat) = ((j : Nat) : Int), j < n] ++ (cellsP w b10 (o10 + j * 5) [.int .i64 x12.id, .int .i64 x12.each, .int .u64 x12.th, .int .u64 x12.tl, .int .u64 x12.tw])) (fun γ13 => (alA (al2 rfl (al2 rfl (al1 (by omega)))) (rd_pre (hts.get hx12) _ rfl))) (fun γ13 => ds_ (sq_ (qa0 [] [1, 2, 3, 7, 9, 26, 27, 28] [(10, .bool true)] (ds_ (sq_ (sq_ (qa0 [] [1, 2, 3, 7, 9, 10, 26, 27, 28] [(32, .slice q m capq), (33, .int .i64 (m : Nat)), (34, .int .i64 0)] (ds_ (at_block (at_loop (α := Nat × Bool) [1, 2, 3, 7, 9, 10, 26, 27, 28, 32, 33, 34] (fun ⟨k, bb⟩ => [(1, .slice pw nw capw), (2, .slice q m capq), (3, .pointer (some ⟨γ1 0, 0, none⟩)), (7, .slice po nu co), (9, .pointer (some ⟨γ13 0, 0, none⟩)), (10, .bool bb), (26, .slice (some ⟨b10, o10, none⟩) n cap), (27, .int .i64 (n : Nat)), (28, .int .i64 (j : Nat)), (32, .slice q m capq), (33, .int .i64 (m : Nat)), (34, .int .i64 (k : Nat))]) (fun ⟨k, bb⟩ => bx (γ13 0) (#[.int .i64 x12.id, .int .i64 x12.each, .int .u64 x12.th, .int .u64 x12.tl, .int .u64 x12.tw]) 67 :: bx (γ1 0) (#[.slice (some ⟨b10, o10, none⟩) n cap]) 26 :: (Yo ++ (Yi ++ []))) (fun ⟨k, bb⟩ => k ≤ m ∧ bb = aloT (al.map IntsA.l) x12.id k) (fun ⟨k, bb⟩ => m - k) (0, true) (by kernel_rfl) rfl ⟨Nat.zero_le _, alo_0⟩ ?_))))))))))
    rintro ⟨k, bb⟩
    rintro ⟨hk, hB⟩
    refine sq_ ?_
    by_cases q17 : ((k : Nat) : Int) < ((m : Nat) : Int)
    ·
      refine qa [(0, .yes)] [1, 2, 3, 7, 9, 10, 26, 27, 28, 32, 33, 34] [(35, .bool true)] ([((k : Nat) : Int) < ((m : Nat) : Int)]) (al1 q17) (ds_ (sq_ (t_ (at_skip (ds_ (sq_ (at_block (sq_ ?_))))))))
      obtain ⟨b20, o20, rfl⟩ := hal.pos (i := k) (by omega)
      obtain ⟨x22, hx22⟩ := get_some (l := al) (m := k) (by omega)
      obtain ⟨hsx22, hnx22, hcx22, hbx22⟩ := hnm x22 (List.mem_of_getElem? hx22)
      have h9x22 := hm9 x22 (List.mem_of_getElem? hx22)
      refine qa [(0, .at b20 o20 k), (1, .go (outs b20 (o20 + k * 1) [.slice x22.p x22.n x22.cap]))] [1, 2, 3, 7, 9, 10, 26, 27, 28, 32, 33, 34] [(12, .slice x22.p x22.n x22.cap)] ([(some ⟨b20, o20, none⟩ : Option Addr) = some ⟨b20, o20, none⟩, (k : Nat) = ((k : Nat) : Int), k < m] ++ (cellsP w b20 (o20 + k * 1) [.slice x22.p x22.n x22.cap])) (alA (al2 rfl (al2 rfl (al1 (by omega)))) (rd_pre (hal.get hx22) _ rfl)) (ds_ ?_)
      rcases q25 : bb with _ | _
      ·
        refine qa0 [] [1, 2, 3, 7, 9, 26, 27, 28, 32, 33, 34] [(10, .bool false)] (done_block (ds_ (qa [(0, .fit)] [1, 2, 3, 7, 9, 10, 26, 27, 28, 32, 33] [(34, .int .i64 (k + 1 : Nat))] ([Fit .i64 ((k + 1 : Nat))]) (al1 (fit64 (by omega) (by omega))) ?_)))
        exact dr [1, 2, 3, 7, 9, 10, 26, 27, 28, 32, 33, 34] (k + 1, false) ⟨by omega, alo_no hB q25 (gs_at hx22)⟩
      ·
        refine ao_ (qo0 5 [(4, .go (owns 0 0 1))] [1, 2, 3, 7, 9, 26, 27, 28, 32, 33, 34] [(39, .bool true), (40, .slice x22.p x22.n x22.cap), (42, .int .i64 x12.id)] ?_)
        rcases q29 : decide (x12.id ∈ x22.l) with _ | _
        ·
          refine cD (.bool false) Try.call43 (fun w hw => by have := has_t x22.p x22.n x22.cap x22.l x12.id w (hsx22.kept hw.below) hnx22 (by omega); rw [q29] at this; exact this) (qo0 3 [] [1, 2, 3, 7, 9, 26, 27, 28, 32, 33, 34] [(10, .bool true)] (on_ (done_block (ds_ (qa [(0, .fit)] [1, 2, 3, 7, 9, 10, 26, 27, 28, 32, 33] [(34, .int .i64 (k + 1 : Nat))] ([Fit .i64 ((k + 1 : Nat))]) (al1 (fit64 (by omega) (by omega))) ?_)))))
          exact dr [1, 2, 3, 7, 9, 10, 26, 27, 28, 32, 33, 34] (k + 1, true) ⟨by omega, by rw [← alo_yes hB q25 (gs_at hx22), q29]; rfl⟩
        ·
          refine cD (.bool true) Try.call43 (fun w hw => by have := has_t x22.p x22.n x22.cap x22.l x12.id w (hsx22.kept hw.below) hnx22 (by omega); rw [q29] at this; exact this) (qo0 3 [] [1, 2, 3, 7, 9, 26, 27, 28, 32, 33, 34] [(10, .bool false)] (on_ (done_block (ds_ (qa [(0, .fit)] [1, 2, 3, 7, 9, 10, 26, 27, 28, 32, 33] [(34, .int .i64 (k + 1 : Nat))] ([Fit .i64 ((k + 1 : Nat))]) (al1 (fit64 (by omega) (by omega))) ?_)))))
          exact dr [1, 2, 3, 7, 9, 10, 26, 27, 28, 32, 33, 34] (k + 1, false) ⟨by omega, by rw [← alo_yes hB q25 (gs_at hx22), q29]; rfl⟩
    ·
      refine qa [(0, .no)] [1, 2, 3, 7, 9, 10, 26, 27, 28, 32, 33, 34] [(35, .bool false)] ([¬ (((k : Nat) : Int) < ((m : Nat) : Int))]) (al1 q17) (ds_ (sq_ (f_ (at_leave _ rfl (ds_ (sq_ (qa0 [] [1, 2, 3, 7, 9, 26, 27, 28] [(47, .bool bb)] (ds_ ?_))))))))
      rcases q36 : bb with _ | _
      ·
        refine f_ (at_skip (done_block (ds_ (qa [(0, .fit)] [1, 2, 3, 7, 26, 27] [(28, .int .i64 (j + 1 : Nat))] ([Fit .i64 ((j + 1 : Nat))]) (al1 (fit64 (by omega) (by omega))) (Done.pick [[bx (γ13 0) (#[.int .i64 x12.id, .int .i64 x12.each, .int .u64 x12.th, .int .u64 x12.tl, .int .u64 x12.tw]) 67], [bx (γ1 0) (#[.slice (some ⟨b10, o10, none⟩) n cap]) 26], Yo, Yi] [1, 2, 3] [0] (bx (γ1 0) (#[.slice (some ⟨b10, o10, none⟩) n cap]) 26 :: (Yo ++ (Yi ++ []))) (by kernel_rfl) rfl rfl ?_)))))
        exact dr [1, 2, 3, 7, 26, 27, 28] (j + 1, Yo, po, nu, co, sl, Yi) ⟨by omega, by omega, hO, hG, sing_out hS hx12 ((alo_end hB (by rw [List.length_map]; omega)).trans q36)⟩
      ·
        refine t_ (ao_ (mo0 5 [(2, .go (owns 0 0 1))] [1, 2, 3, 26, 27, 28] (fun γ38 => [(48, .slice po nu co), (52, .slice (some ⟨γ38 1, 0, none⟩) 1 1)]) (fun γ38 L => bx (γ38 1) (#[.slice (some ⟨γ38 0, 0, none⟩) 1 1]) 40 :: bx (γ38 0) (#[.int .i64 x12.id]) 3 :: L) (fun γ38 => ops_append (α := IntsA) [bx (γ38 1) (#[.slice (some ⟨γ38 0, 0, none⟩) 1 1]) 40, bx (γ38 0) (#[.int .i64 x12.id]) 3, bx (γ13 0) (#[.int .i64 x12.id, .int .i64 x12.each, .int .u64 x12.th, .int .u64 x12.tl, .int .u64 x12.tw]) 67, bx (γ1 0) (#[.slice (some ⟨b10, o10, none⟩) n cap]) 26] Yo (Yi ++ []) (.refl _) rfl (by kernel_rfl) (by kernel_rfl) (p := po) (n := nu) (cap := co) (m := 1) (yv := .slice (some ⟨γ38 1, 0, none⟩) 1 1) (by kernel_rfl) (by kernel_rfl) (T := 40) (by_ := 24) (by kernel_rfl) (al ++ sl) ([(⟨(some ⟨γ38 0, 0, none⟩), 1, 1, [x12.id]⟩ : IntsA)]) hO (fun w hw => src_svn Try.underlying28 (sv_row (hw.row 0 rfl) (by rfl)) (by rfl)) (by rfl) (by have hmx : maxLen = 9223372036854775807 := rfl; omega) (by have hmx : maxLen = 9223372036854775807 := rfl; omega) (fun Y39 p39 cap39 hO39 => qo0 1 [] [1, 2, 3, 26, 27, 28] [(7, .slice p39 (nu + 1) cap39)] (on_ (done_block (ds_ (qa [(0, .fit)] [1, 2, 3, 7, 26, 27] [(28, .int .i64 (j + 1 : Nat))] ([Fit .i64 ((j + 1 : Nat))]) (al1 (fit64 (by omega) (by omega))) (Done.pick [[bx (γ38 1) (#[.slice (some ⟨γ38 0, 0, none⟩) 1 1]) 40], [bx (γ38 0) (#[.int .i64 x12.id]) 3], [bx (γ13 0) (#[.int .i64 x12.id, .int .i64 x12.each, .int .u64 x12.th, .int .u64 x12.tl, .int .u64 x12.tw]) 67], [bx (γ1 0) (#[.slice (some ⟨b10, o10, none⟩) n cap]) 26], Y39, Yi] [3, 4, 5, 1] [0, 2] (bx (γ1 0) (#[.slice (some ⟨b10, o10, none⟩) n cap]) 26 :: (Y39 ++ (Yi ++ ([bx (γ38 0) (#[.int .i64 x12.id]) 3])))) (by kernel_rfl) rfl rfl (Done.as (L' := bx (γ1 0) (#[.slice (some ⟨b10, o10, none⟩) n cap]) 26 :: (Y39 ++ ((Yi ++ [bx (γ38 0) (#[.int .i64 x12.id]) 3]) ++ []))) (by simp only [List.append_assoc, List.cons_append, List.nil_append, List.append_nil]) ?_))))))))))
        exact dr [1, 2, 3, 7, 26, 27, 28] (j + 1, Y39, p39, (nu + 1), cap39, sl ++ [(⟨(some ⟨γ38 0, 0, none⟩), 1, 1, [x12.id]⟩ : IntsA)], Yi ++ [bx (γ38 0) (#[.int .i64 x12.id]) 3]) ⟨by omega, by omega, SlO.asE hO39 (List.append_assoc ..), GotR.snoc (x := (⟨(some ⟨γ38 0, 0, none⟩), 1, 1, [x12.id]⟩ : IntsA)) hG (SlO.lit rfl rfl (by simp [maxLen])), sing_on hS hx12 ((alo_end hB (by rw [List.length_map]; omega)).trans q36) rfl⟩
  ·
    refine qa [(0, .no)] [1, 2, 3, 7, 26, 27, 28] [(29, .bool false)] ([¬ (((j : Nat) : Int) < ((n : Nat) : Int))]) (al1 q7) (ds_ (sq_ (f_ (at_leave _ rfl (ds_ (sq_ (qa0 [] [1, 3, 7] [(13, .slice none 0 0)] (ds_ (sq_ (sq_ (qa0 [] [1, 3, 13] [(55, .slice po nu co), (56, .int .i64 (nu : Nat)), (57, .int .i64 0)] (ds_ (at_block (at_rebase fun wR45 hS45 => ?_))))))))))))))
    have hsr := hO.sub hS45 (List.Sublist.cons _ (List.sublist_append_left Yo _))
    have hrl : ∀ x ∈ al ++ sl, x.Reads wR45 ∧ x.n ≤ 1000 := fun x hx => (List.mem_append.1 hx).elim (fun h => ⟨(hnm x h).kept hS45.below, hm9 x h⟩) (fun h => by
      have h1 := GotR.reads hG hS45 (List.Sublist.cons _ (List.Sublist.trans (List.sublist_append_left Yi _) (List.sublist_append_right Yo _))) x h
      have h2 := sing_n hS x h
      have h3 := h1.hn
      exact ⟨h1, by omega⟩)
    have hR9 := sing_rows hS (by omega) (rfl : al.map IntsA.l = _)
    have hts := hts.kept hS45.below
    have hws := hws.kept hS45.below
    have hrow := hS45.oldRow 0 rfl
    refine at_loop (α := Nat × List EnA × List Ob × Option Addr × Nat × Nat × List Ob) [1, 3, 13, 55, 56, 57] (fun ⟨i, ol, Yz, pz, nz, cz, Yj⟩ => [(1, .slice pw nw capw), (3, .pointer (some ⟨γ1 0, 0 + 0 * 1, none⟩)), (13, .slice pz nz cz), (55, .slice po nu co), (56, .int .i64 (nu : Nat)), (57, .int .i64 (i : Nat))]) (fun ⟨i, ol, Yz, pz, nz, cz, Yj⟩ => (Yz ++ (Yj ++ []))) (fun ⟨i, ol, Yz, pz, nz, cz, Yj⟩ => i ≤ nu ∧ nz ≤ i ∧ SlO 47 Yz pz nz cz ol ∧ GotE 3 Yj ol ∧ ol.map EnA.val = ordV (pairsV ts ws) ((al ++ sl).map IntsA.l) i ∧ (∀ x ∈ ol, x.U)) (fun ⟨i, ol, Yz, pz, nz, cz, Yj⟩ => nu - i) (0, [], [], none, 0, 0, []) (by kernel_rfl) rfl ⟨Nat.zero_le _, Nat.le_refl _, SlO.nil, GotE.nil, rfl, (fun x hx => by cases hx)⟩ ?_
    rintro ⟨i, ol, Yz, pz, nz, cz, Yj⟩
    rintro ⟨hi, hnz, hZ, hGe, hV, hUe⟩
    have hlz := hZ.len
    refine sq_ ?_
    by_cases q47 : ((i : Nat) : Int) < ((nu : Nat) : Int)
    ·
      refine qa [(0, .yes)] [1, 3, 13, 55, 56, 57] [(58, .bool true)] ([((i : Nat) : Int) < ((nu : Nat) : Int)]) (al1 q47) (ds_ (sq_ (t_ (at_skip (ds_ (sq_ (at_block (sq_ ?_))))))))
      obtain ⟨b50, o50, rfl⟩ := hsr.pos (i := i) (by omega)
      obtain ⟨x52, hx52⟩ := get_some (l := (al ++ sl)) (m := i) (by omega)
      have hrx52 := (hrl x52 (List.mem_of_getElem? hx52)).1
      have h9x52 := (hrl x52 (List.mem_of_getElem? hx52)).2
      obtain ⟨hsx52, hnx52, hcx52, hbx52⟩ := hrx52
      refine qa [(0, .at b50 o50 i), (1, .go (outs b50 (o50 + i * 1) [.slice x52.p x52.n x52.cap]))] [1, 3, 13, 55, 56, 57] [(15, .slice x52.p x52.n x52.cap)] ([(some ⟨b50, o50, none⟩ : Option Addr) = some ⟨b50, o50, none⟩, (i : Nat) = ((i : Nat) : Int), i < nu] ++ (cellsP wR45 b50 (o50 + i * 1) [.slice x52.p x52.n x52.cap])) (alA (al2 rfl (al2 rfl (al1 (by omega)))) (rd_pre (hsr.get hx52) _ rfl)) (ds_ (sq_ (ao_ (qo 3 [(0, .go (outs (γ1 0) (0 + 0 * 1) [.slice p n cap]))] [1, 3, 13, 55, 56, 57] [(62, .agg #[.slice p n cap]), (63, .slice pw nw capw), (64, .slice x52.p x52.n x52.cap)] (cellsP wR45 (γ1 0) (0 + 0 * 1) [.slice p n cap]) (rd_pre hrow _ rfl) (cP (fun v L' => ∃ (x_ : EnA) (Y_ : List Ob) (b_ : Bool), v = .tuple #[.agg #[.slice x_.p x_.n x_.cap, .int .u64 x_.th, .int .u64 x_.tl, .int .u64 x_.tw, .int .u64 x_.ord, .bool x_.fresh], .bool b_] ∧ L' = List.take 0 ((Yz ++ (Yj ++ []))) ++ (Y_ ++ List.drop 0 ((Yz ++ (Yj ++ [])))) ∧ SlO 3 Y_ x_.p x_.n x_.cap x_.l ∧ x_.val = entR ((pairsV ts ws).filter fun p => decide (p.r.id ∈ x52.l)) ∧ x_.t.U ∧ x_.U ∧ b_ = !((pairsV ts ws).filter fun p => decide (p.r.id ∈ x52.l)).isEmpty) Try.call44 (fun w hw => (entity_t p n cap ts pw nw capw ws x52.p x52.n x52.cap x52.l w (hts.kept hw.below) hn hb hU (hws.kept hw.below) hnw hbw hWU (hsx52.kept hw.below) hnx52 h9x52 hlw hok).mono fun e w' ⟨q_, n_, c_, Y_, he, hO, hUt, hb, hY⟩ => ⟨_, _, he, ⟨(⟨q_, n_, c_, (entR ((pairsV ts ws).filter fun p => decide (p.r.id ∈ x52.l))).mem, (entR ((pairsV ts ws).filter fun p => decide (p.r.id ∈ x52.l))).t.hi, (entR ((pairsV ts ws).filter fun p => decide (p.r.id ∈ x52.l))).t.lo, (entR ((pairsV ts ws).filter fun p => decide (p.r.id ∈ x52.l))).t.w, (entR ((pairsV ts ws).filter fun p => decide (p.r.id ∈ x52.l))).ord, (entR ((pairsV ts ws).filter fun p => decide (p.r.id ∈ x52.l))).fresh⟩ : EnA), Y_, _, rfl, rfl, hO, rfl, hUt, ⟨hUt, (entR_o hWU).1, (entR_o hWU).2⟩, rfl⟩, hw.join hb hY 0⟩) ?_)))))
      rintro v55 L55 ⟨xe55, Yx55, be55, rfl, rfl, hOx55, hvx55, hUt55, hUx55, hbe55⟩
      refine mo0 6 [(8, .go (owns 0 0 6))] [1, 3, 13, 55, 56, 57] (fun γ56 => [(16, .pointer (some ⟨γ56 0, 0, none⟩)), (17, .bool be55)]) (fun γ56 L => bx (γ56 0) (#[.slice xe55.p xe55.n xe55.cap, .int .u64 xe55.th, .int .u64 xe55.tl, .int .u64 xe55.tw, .int .u64 xe55.ord, .bool xe55.fresh]) 47 :: L) (fun γ56 => on_ (ds_ (sq_ (sq_ ?_))))
      rcases q58 : be55 with _ | _
      ·
        refine qa0 [] [1, 3, 13, 16, 55, 56, 57] [(69, .bool true)] (ds_ (t_ (at_leave _ rfl (ds_ (qa [(0, .fit)] [1, 3, 13, 55, 56] [(57, .int .i64 (i + 1 : Nat))] ([Fit .i64 ((i + 1 : Nat))]) (al1 (fit64 (by omega) (by omega))) (Done.pick [[bx (γ56 0) (#[.slice xe55.p xe55.n xe55.cap, .int .u64 xe55.th, .int .u64 xe55.tl, .int .u64 xe55.tw, .int .u64 xe55.ord, .bool xe55.fresh]) 47], Yx55, Yz, Yj] [2, 3] [0, 1] ((Yz ++ (Yj ++ []))) (by kernel_rfl) rfl rfl ?_))))))
        exact dr [1, 3, 13, 55, 56, 57] (i + 1, ol, Yz, pz, nz, cz, Yj) ⟨by omega, by omega, hZ, hGe, by rw [ord_no (show ((al ++ sl).map IntsA.l)[i]? = some x52.l from by rw [List.getElem?_map, hx52]; rfl) (by simpa using (hbe55.symm.trans q58))]; exact hV, hUe⟩
      ·
        refine qa0 [] [1, 3, 13, 16, 55, 56, 57] [(69, .bool false)] (ds_ (f_ (at_skip (ds_ (sq_ (qa0 [] [1, 3, 13, 16, 55, 56, 57] [(18, .slice none 0 0)] (ds_ (sq_ (qa0 [] [1, 3, 13, 16, 18, 55, 56, 57] [(19, .bool false)] (ds_ (sq_ (sq_ (qa0 [] [1, 3, 16, 18, 19, 55, 56, 57] [(70, .slice pz nz cz), (71, .int .i64 (nz : Nat)), (72, .int .i64 0)] (ds_ (at_block (at_loop (α := Nat × List EnA × List Ob × Option Addr × Nat × Nat × Bool) [1, 3, 16, 18, 19, 55, 56, 57, 70, 71, 72] (fun ⟨k, nl, Yn, pn, nn, cn, dn⟩ => [(1, .slice pw nw capw), (3, .pointer (some ⟨γ1 0, 0 + 0 * 1, none⟩)), (16, .pointer (some ⟨γ56 0, 0, none⟩)), (18, .slice pn nn cn), (19, .bool dn), (55, .slice (some ⟨b50, o50, none⟩) nu co), (56, .int .i64 (nu : Nat)), (57, .int .i64 (i : Nat)), (70, .slice pz nz cz), (71, .int .i64 (nz : Nat)), (72, .int .i64 (k : Nat))]) (fun ⟨k, nl, Yn, pn, nn, cn, dn⟩ => bx (γ56 0) (#[.slice xe55.p xe55.n xe55.cap, .int .u64 xe55.th, .int .u64 xe55.tl, .int .u64 xe55.tw, .int .u64 xe55.ord, .bool xe55.fresh]) 47 :: (Yn ++ (Yx55 ++ (Yz ++ (Yj ++ []))))) (fun ⟨k, nl, Yn, pn, nn, cn, dn⟩ => k ≤ nz ∧ nn ≤ k + (if dn = true then 1 else 0) ∧ SlO 47 Yn pn nn cn nl ∧ NxA xe55 ol k dn nl) (fun ⟨k, nl, Yn, pn, nn, cn, dn⟩ => nz - k) (0, [], [], none, 0, 0, false) (by kernel_rfl) rfl ⟨Nat.zero_le _, by omega, SlO.nil, nx_0⟩ ?_))))))))))))))))
        rintro ⟨k, nl, Yn, pn, nn, cn, dn⟩
        rintro ⟨hk, hnn, hNx, hN⟩
        have hln := hNx.len
        have hnn1 : nn ≤ k + 1 := by cases dn <;> simp at hnn <;> omega
        refine sq_ ?_
        by_cases q66 : ((k : Nat) : Int) < ((nz : Nat) : Int)
        ·
          refine qa [(0, .yes)] [1, 3, 16, 18, 19, 55, 56, 57, 70, 71, 72] [(73, .bool true)] ([((k : Nat) : Int) < ((nz : Nat) : Int)]) (al1 q66) (ds_ (sq_ (t_ (at_skip (ds_ (sq_ (at_block (sq_ (At.pick [[bx (γ56 0) (#[.slice xe55.p xe55.n xe55.cap, .int .u64 xe55.th, .int .u64 xe55.tl, .int .u64 xe55.tw, .int .u64 xe55.ord, .bool xe55.fresh]) 47], Yn, Yx55, Yz, Yj] [0, 3, 1, 2, 4] [] (bx (γ56 0) (#[.slice xe55.p xe55.n xe55.cap, .int .u64 xe55.th, .int .u64 xe55.tl, .int .u64 xe55.tw, .int .u64 xe55.ord, .bool xe55.fresh]) 47 :: (Yz ++ (Yn ++ (Yx55 ++ (Yj ++ []))))) (by kernel_rfl) rfl rfl ?_)))))))))
          have hln69 := hZ.len
          obtain ⟨g69, cs69, rfl, rfl, hOw69⟩ := hZ.rowOf (i := k) (by omega)
          obtain ⟨x71, hx71⟩ := get_some (l := ol) (m := k) (by omega)
          refine ma [(0, .at g69 0 k), (1, .go (ownps 1 (0 + k * 6) [.slice x71.p x71.n x71.cap, .int .u64 x71.th, .int .u64 x71.tl, .int .u64 x71.tw, .int .u64 x71.ord, .bool x71.fresh])), (3, .go (owns 0 0 6))] [1, 3, 16, 18, 19, 55, 56, 57, 70, 71, 72] (fun γ72 => [(21, .pointer (some ⟨γ72 0, 0, none⟩))]) (fun γ72 L => bx (γ72 0) (#[.slice x71.p x71.n x71.cap, .int .u64 x71.th, .int .u64 x71.tl, .int .u64 x71.tw, .int .u64 x71.ord, .bool x71.fresh]) 47 :: L) (fun γ72 => [(some ⟨g69, 0, none⟩ : Option Addr) = some ⟨g69, 0, none⟩, (k : Nat) = ((k : Nat) : Int), k < nz] ++ (acellsP cs69 (0 + k * 6) [.slice x71.p x71.n x71.cap, .int .u64 x71.th, .int .u64 x71.tl, .int .u64 x71.tw, .int .u64 x71.ord, .bool x71.fresh])) (fun γ72 => (alA (al2 rfl (al2 rfl (al1 (by omega)))) (rda_pre (hOw69.rdx hZ.len hx71) _ rfl))) (fun γ72 => ds_ (sq_ (sq_ ?_)))
          rcases q74 : dn with _ | _
          ·
            refine ao_ (qo0 5 [(3, .go (owns 1 0 6)), (4, .go (owns 0 0 6))] [1, 3, 16, 18, 19, 21, 55, 56, 57, 70, 71, 72] [(78, .bool true), (79, .agg #[.slice xe55.p xe55.n xe55.cap, .int .u64 xe55.th, .int .u64 xe55.tl, .int .u64 xe55.tw, .int .u64 xe55.ord, .bool xe55.fresh]), (80, .agg #[.slice x71.p x71.n x71.cap, .int .u64 x71.th, .int .u64 x71.tl, .int .u64 x71.tw, .int .u64 x71.ord, .bool x71.fresh])] (cD (.bool (aheadE xe55.val x71.val)) Try.call24 (fun w hw => rahead_t xe55 x71 w (ent_reads hOx55 hUx55 hw (List.Sublist.cons _ (List.Sublist.cons _ (List.Sublist.cons _ (List.Sublist.trans (List.sublist_append_left Yx55 _) (List.sublist_append_right Yn _)))))) (GotE.reads hGe hUe hw (List.Sublist.cons _ (List.Sublist.cons _ (List.Sublist.cons _ (List.Sublist.trans (List.Sublist.trans (List.sublist_append_left Yj _) (List.sublist_append_right Yx55 _)) (List.sublist_append_right Yn _))))) x71 (List.mem_of_getElem? hx71))) (qo0 1 [] [1, 3, 16, 18, 19, 21, 55, 56, 57, 70, 71, 72] [(82, .bool (aheadE xe55.val x71.val))] (on_ (ds_ ?_)))))
            rcases q77 : (aheadE xe55.val x71.val) with _ | _
            ·
              refine f_ (at_skip (ds_ (ao_ (mo0 3 [(1, .go (owns 0 0 6))] [1, 3, 16, 19, 55, 56, 57, 70, 71, 72] (fun γ78 => [(87, .slice pn nn cn), (89, .slice (some ⟨γ78 0, 0, none⟩) 1 1)]) (fun γ78 L => bx (γ78 0) (#[.slice x71.p x71.n x71.cap, .int .u64 x71.th, .int .u64 x71.tl, .int .u64 x71.tw, .int .u64 x71.ord, .bool x71.fresh]) 47 :: L) (fun γ78 => ops_append (α := EnA) [bx (γ78 0) (#[.slice x71.p x71.n x71.cap, .int .u64 x71.th, .int .u64 x71.tl, .int .u64 x71.tw, .int .u64 x71.ord, .bool x71.fresh]) 47, bx (γ72 0) (#[.slice x71.p x71.n x71.cap, .int .u64 x71.th, .int .u64 x71.tl, .int .u64 x71.tw, .int .u64 x71.ord, .bool x71.fresh]) 47, bx (γ56 0) (#[.slice xe55.p xe55.n xe55.cap, .int .u64 xe55.th, .int .u64 xe55.tl, .int .u64 xe55.tw, .int .u64 xe55.ord, .bool xe55.fresh]) 47, bx g69 cs69 47] Yn (Yx55 ++ (Yj ++ [])) (.refl _) rfl (by kernel_rfl) (by kernel_rfl) (p := pn) (n := nn) (cap := cn) (m := 1) (yv := .slice (some ⟨γ78 0, 0, none⟩) 1 1) (by kernel_rfl) (by kernel_rfl) (T := 47) (by_ := 64) (by kernel_rfl) nl ([(⟨x71.p, x71.n, x71.cap, x71.l, x71.th, x71.tl, x71.tw, x71.ord, x71.fresh⟩ : EnA)]) hNx (fun w hw => src_svn Try.underlying34 (sv_row (hw.row 0 rfl) (by rfl)) (by rfl)) (by rfl) (by have hmx : maxLen = 9223372036854775807 := rfl; omega) (by have hmx : maxLen = 9223372036854775807 := rfl; omega) (fun Y79 p79 cap79 hO79 => qo0 1 [] [1, 3, 16, 19, 55, 56, 57, 70, 71, 72] [(18, .slice p79 (nn + 1) cap79)] (on_ (done_block (ds_ (qa [(0, .fit)] [1, 3, 16, 18, 19, 55, 56, 57, 70, 71] [(72, .int .i64 (k + 1 : Nat))] ([Fit .i64 ((k + 1 : Nat))]) (al1 (fit64 (by omega) (by omega))) (Done.pick [[bx (γ78 0) (#[.slice x71.p x71.n x71.cap, .int .u64 x71.th, .int .u64 x71.tl, .int .u64 x71.tw, .int .u64 x71.ord, .bool x71.fresh]) 47], [bx (γ72 0) (#[.slice x71.p x71.n x71.cap, .int .u64 x71.th, .int .u64 x71.tl, .int .u64 x71.tw, .int .u64 x71.ord, .bool x71.fresh]) 47], [bx (γ56 0) (#[.slice xe55.p xe55.n xe55.cap, .int .u64 xe55.th, .int .u64 xe55.tl, .int .u64 xe55.tw, .int .u64 xe55.ord, .bool xe55.fresh]) 47], [bx g69 cs69 47], Y79, Yx55, Yj] [2, 4, 5, 3, 6] [0, 1] (bx (γ56 0) (#[.slice xe55.p xe55.n xe55.cap, .int .u64 xe55.th, .int .u64 xe55.tl, .int .u64 xe55.tw, .int .u64 xe55.ord, .bool xe55.fresh]) 47 :: (Y79 ++ (Yx55 ++ ([bx g69 cs69 47] ++ (Yj ++ []))))) (by kernel_rfl) rfl rfl ?_)))))))))))
              exact dr [1, 3, 16, 18, 19, 55, 56, 57, 70, 71, 72] (k + 1, (nl ++ [(⟨x71.p, x71.n, x71.cap, x71.l, x71.th, x71.tl, x71.tw, x71.ord, x71.fresh⟩ : EnA)]), Y79, p79, (nn + 1), cap79, false) ⟨by omega, by have h9 := hnn; rw [q74] at h9; simp at h9 ⊢; omega, hO79, nx_on hN q74 hx71 q77⟩
            ·
              refine t_ (ao_ (mo0 3 [(1, .go (owns 1 0 6))] [1, 3, 16, 21, 55, 56, 57, 70, 71, 72] (fun γ82 => [(83, .slice pn nn cn), (85, .slice (some ⟨γ82 0, 0, none⟩) 1 1)]) (fun γ82 L => bx (γ82 0) (#[.slice xe55.p xe55.n xe55.cap, .int .u64 xe55.th, .int .u64 xe55.tl, .int .u64 xe55.tw, .int .u64 xe55.ord, .bool xe55.fresh]) 47 :: L) (fun γ82 => ops_append (α := EnA) [bx (γ82 0) (#[.slice xe55.p xe55.n xe55.cap, .int .u64 xe55.th, .int .u64 xe55.tl, .int .u64 xe55.tw, .int .u64 xe55.ord, .bool xe55.fresh]) 47, bx (γ72 0) (#[.slice x71.p x71.n x71.cap, .int .u64 x71.th, .int .u64 x71.tl, .int .u64 x71.tw, .int .u64 x71.ord, .bool x71.fresh]) 47, bx (γ56 0) (#[.slice xe55.p xe55.n xe55.cap, .int .u64 xe55.th, .int .u64 xe55.tl, .int .u64 xe55.tw, .int .u64 xe55.ord, .bool xe55.fresh]) 47, bx g69 cs69 47] Yn (Yx55 ++ (Yj ++ [])) (.refl _) rfl (by kernel_rfl) (by kernel_rfl) (p := pn) (n := nn) (cap := cn) (m := 1) (yv := .slice (some ⟨γ82 0, 0, none⟩) 1 1) (by kernel_rfl) (by kernel_rfl) (T := 47) (by_ := 64) (by kernel_rfl) nl ([(⟨xe55.p, xe55.n, xe55.cap, xe55.l, xe55.th, xe55.tl, xe55.tw, xe55.ord, xe55.fresh⟩ : EnA)]) hNx (fun w hw => src_svn Try.underlying34 (sv_row (hw.row 0 rfl) (by rfl)) (by rfl)) (by rfl) (by have hmx : maxLen = 9223372036854775807 := rfl; omega) (by have hmx : maxLen = 9223372036854775807 := rfl; omega) (fun Y83 p83 cap83 hO83 => qo0 2 [] [1, 3, 16, 21, 55, 56, 57, 70, 71, 72] [(18, .slice p83 (nn + 1) cap83), (19, .bool true)] (on_ (ds_ (ao_ (mo0 3 [(1, .go (owns 1 0 6))] [1, 3, 16, 19, 55, 56, 57, 70, 71, 72] (fun γ85 => [(87, .slice p83 (nn + 1) cap83), (89, .slice (some ⟨γ85 0, 0, none⟩) 1 1)]) (fun γ85 L => bx (γ85 0) (#[.slice x71.p x71.n x71.cap, .int .u64 x71.th, .int .u64 x71.tl, .int .u64 x71.tw, .int .u64 x71.ord, .bool x71.fresh]) 47 :: L) (fun γ85 => ops_append (α := EnA) [bx (γ85 0) (#[.slice x71.p x71.n x71.cap, .int .u64 x71.th, .int .u64 x71.tl, .int .u64 x71.tw, .int .u64 x71.ord, .bool x71.fresh]) 47, bx (γ82 0) (#[.slice xe55.p xe55.n xe55.cap, .int .u64 xe55.th, .int .u64 xe55.tl, .int .u64 xe55.tw, .int .u64 xe55.ord, .bool xe55.fresh]) 47, bx (γ72 0) (#[.slice x71.p x71.n x71.cap, .int .u64 x71.th, .int .u64 x71.tl, .int .u64 x71.tw, .int .u64 x71.ord, .bool x71.fresh]) 47, bx (γ56 0) (#[.slice xe55.p xe55.n xe55.cap, .int .u64 xe55.th, .int .u64 xe55.tl, .int .u64 xe55.tw, .int .u64 xe55.ord, .bool xe55.fresh]) 47, bx g69 cs69 47] Y83 (Yx55 ++ (Yj ++ [])) (.refl _) rfl (by kernel_rfl) (by kernel_rfl) (p := p83) (n := (nn + 1)) (cap := cap83) (m := 1) (yv := .slice (some ⟨γ85 0, 0, none⟩) 1 1) (by kernel_rfl) (by kernel_rfl) (T := 47) (by_ := 64) (by kernel_rfl) (nl ++ [(⟨xe55.p, xe55.n, xe55.cap, xe55.l, xe55.th, xe55.tl, xe55.tw, xe55.ord, xe55.fresh⟩ : EnA)]) ([(⟨x71.p, x71.n, x71.cap, x71.l, x71.th, x71.tl, x71.tw, x71.ord, x71.fresh⟩ : EnA)]) hO83 (fun w hw => src_svn Try.underlying34 (sv_row (hw.row 0 rfl) (by rfl)) (by rfl)) (by rfl) (by have hmx : maxLen = 9223372036854775807 := rfl; omega) (by have hmx : maxLen = 9223372036854775807 := rfl; omega) (fun Y86 p86 cap86 hO86 => ?_))))))))))
              refine qo0 1 [] [1, 3, 16, 19, 55, 56, 57, 70, 71, 72] [(18, .slice p86 ((nn + 1) + 1) cap86)] (on_ (done_block (ds_ (qa [(0, .fit)] [1, 3, 16, 18, 19, 55, 56, 57, 70, 71] [(72, .int .i64 (k + 1 : Nat))] ([Fit .i64 ((k + 1 : Nat))]) (al1 (fit64 (by omega) (by omega))) (Done.pick [[bx (γ85 0) (#[.slice x71.p x71.n x71.cap, .int .u64 x71.th, .int .u64 x71.tl, .int .u64 x71.tw, .int .u64 x71.ord, .bool x71.fresh]) 47], [bx (γ82 0) (#[.slice xe55.p xe55.n xe55.cap, .int .u64 xe55.th, .int .u64 xe55.tl, .int .u64 xe55.tw, .int .u64 xe55.ord, .bool xe55.fresh]) 47], [bx (γ72 0) (#[.slice x71.p x71.n x71.cap, .int .u64 x71.th, .int .u64 x71.tl, .int .u64 x71.tw, .int .u64 x71.ord, .bool x71.fresh]) 47], [bx (γ56 0) (#[.slice xe55.p xe55.n xe55.cap, .int .u64 xe55.th, .int .u64 xe55.tl, .int .u64 xe55.tw, .int .u64 xe55.ord, .bool xe55.fresh]) 47], [bx g69 cs69 47], Y86, Yx55, Yj] [3, 5, 6, 4, 7] [0, 1, 2] (bx (γ56 0) (#[.slice xe55.p xe55.n xe55.cap, .int .u64 xe55.th, .int .u64 xe55.tl, .int .u64 xe55.tw, .int .u64 xe55.ord, .bool xe55.fresh]) 47 :: (Y86 ++ (Yx55 ++ ([bx g69 cs69 47] ++ (Yj ++ []))))) (by kernel_rfl) rfl rfl ?_)))))
              exact dr [1, 3, 16, 18, 19, 55, 56, 57, 70, 71, 72] (k + 1, ((nl ++ [(⟨xe55.p, xe55.n, xe55.cap, xe55.l, xe55.th, xe55.tl, xe55.tw, xe55.ord, xe55.fresh⟩ : EnA)]) ++ [(⟨x71.p, x71.n, x71.cap, x71.l, x71.th, x71.tl, x71.tw, x71.ord, x71.fresh⟩ : EnA)]), Y86, p86, ((nn + 1) + 1), cap86, true) ⟨by omega, by have h9 := hnn; rw [q74] at h9; simp at h9 ⊢; omega, hO86, nx_in hN q74 hx71 q77⟩
          ·
            refine qa0 [] [1, 3, 16, 18, 19, 21, 55, 56, 57, 70, 71, 72] [(82, .bool false)] (ds_ (f_ (at_skip (ds_ (ao_ (mo0 3 [(1, .go (owns 0 0 6))] [1, 3, 16, 19, 55, 56, 57, 70, 71, 72] (fun γ90 => [(87, .slice pn nn cn), (89, .slice (some ⟨γ90 0, 0, none⟩) 1 1)]) (fun γ90 L => bx (γ90 0) (#[.slice x71.p x71.n x71.cap, .int .u64 x71.th, .int .u64 x71.tl, .int .u64 x71.tw, .int .u64 x71.ord, .bool x71.fresh]) 47 :: L) (fun γ90 => ops_append (α := EnA) [bx (γ90 0) (#[.slice x71.p x71.n x71.cap, .int .u64 x71.th, .int .u64 x71.tl, .int .u64 x71.tw, .int .u64 x71.ord, .bool x71.fresh]) 47, bx (γ72 0) (#[.slice x71.p x71.n x71.cap, .int .u64 x71.th, .int .u64 x71.tl, .int .u64 x71.tw, .int .u64 x71.ord, .bool x71.fresh]) 47, bx (γ56 0) (#[.slice xe55.p xe55.n xe55.cap, .int .u64 xe55.th, .int .u64 xe55.tl, .int .u64 xe55.tw, .int .u64 xe55.ord, .bool xe55.fresh]) 47, bx g69 cs69 47] Yn (Yx55 ++ (Yj ++ [])) (.refl _) rfl (by kernel_rfl) (by kernel_rfl) (p := pn) (n := nn) (cap := cn) (m := 1) (yv := .slice (some ⟨γ90 0, 0, none⟩) 1 1) (by kernel_rfl) (by kernel_rfl) (T := 47) (by_ := 64) (by kernel_rfl) nl ([(⟨x71.p, x71.n, x71.cap, x71.l, x71.th, x71.tl, x71.tw, x71.ord, x71.fresh⟩ : EnA)]) hNx (fun w hw => src_svn Try.underlying34 (sv_row (hw.row 0 rfl) (by rfl)) (by rfl)) (by rfl) (by have hmx : maxLen = 9223372036854775807 := rfl; omega) (by have hmx : maxLen = 9223372036854775807 := rfl; omega) (fun Y91 p91 cap91 hO91 => qo0 1 [] [1, 3, 16, 19, 55, 56, 57, 70, 71, 72] [(18, .slice p91 (nn + 1) cap91)] (on_ (done_block (ds_ (qa [(0, .fit)] [1, 3, 16, 18, 19, 55, 56, 57, 70, 71] [(72, .int .i64 (k + 1 : Nat))] ([Fit .i64 ((k + 1 : Nat))]) (al1 (fit64 (by omega) (by omega))) (Done.pick [[bx (γ90 0) (#[.slice x71.p x71.n x71.cap, .int .u64 x71.th, .int .u64 x71.tl, .int .u64 x71.tw, .int .u64 x71.ord, .bool x71.fresh]) 47], [bx (γ72 0) (#[.slice x71.p x71.n x71.cap, .int .u64 x71.th, .int .u64 x71.tl, .int .u64 x71.tw, .int .u64 x71.ord, .bool x71.fresh]) 47], [bx (γ56 0) (#[.slice xe55.p xe55.n xe55.cap, .int .u64 xe55.th, .int .u64 xe55.tl, .int .u64 xe55.tw, .int .u64 xe55.ord, .bool xe55.fresh]) 47], [bx g69 cs69 47], Y91, Yx55, Yj] [2, 4, 5, 3, 6] [0, 1] (bx (γ56 0) (#[.slice xe55.p xe55.n xe55.cap, .int .u64 xe55.th, .int .u64 xe55.tl, .int .u64 xe55.tw, .int .u64 xe55.ord, .bool xe55.fresh]) 47 :: (Y91 ++ (Yx55 ++ ([bx g69 cs69 47] ++ (Yj ++ []))))) (by kernel_rfl) rfl rfl ?_)))))))))))))
            exact dr [1, 3, 16, 18, 19, 55, 56, 57, 70, 71, 72] (k + 1, (nl ++ [(⟨x71.p, x71.n, x71.cap, x71.l, x71.th, x71.tl, x71.tw, x71.ord, x71.fresh⟩ : EnA)]), Y91, p91, (nn + 1), cap91, true) ⟨by omega, by have h9 := hnn; rw [q74] at h9; simp at h9 ⊢; omega, hO91, nx_done hN q74 hx71⟩
        ·
          refine qa [(0, .no)] [1, 3, 16, 18, 19, 55, 56, 57, 70, 71, 72] [(73, .bool false)] ([¬ (((k : Nat) : Int) < ((nz : Nat) : Int))]) (al1 q66) (ds_ (sq_ (f_ (at_leave _ rfl (ds_ (sq_ (sq_ ?_)))))))
          rcases q96 : dn with _ | _
          ·
            refine qa0 [] [1, 3, 16, 18, 55, 56, 57] [(93, .bool true)] (ds_ (t_ (ao_ (mo0 3 [(1, .go (owns 0 0 6))] [1, 3, 55, 56, 57] (fun γ98 => [(94, .slice pn nn cn), (96, .slice (some ⟨γ98 0, 0, none⟩) 1 1)]) (fun γ98 L => bx (γ98 0) (#[.slice xe55.p xe55.n xe55.cap, .int .u64 xe55.th, .int .u64 xe55.tl, .int .u64 xe55.tw, .int .u64 xe55.ord, .bool xe55.fresh]) 47 :: L) (fun γ98 => ops_append (α := EnA) [bx (γ98 0) (#[.slice xe55.p xe55.n xe55.cap, .int .u64 xe55.th, .int .u64 xe55.tl, .int .u64 xe55.tw, .int .u64 xe55.ord, .bool xe55.fresh]) 47, bx (γ56 0) (#[.slice xe55.p xe55.n xe55.cap, .int .u64 xe55.th, .int .u64 xe55.tl, .int .u64 xe55.tw, .int .u64 xe55.ord, .bool xe55.fresh]) 47] Yn (Yx55 ++ (Yz ++ (Yj ++ []))) (.refl _) rfl (by kernel_rfl) (by kernel_rfl) (p := pn) (n := nn) (cap := cn) (m := 1) (yv := .slice (some ⟨γ98 0, 0, none⟩) 1 1) (by kernel_rfl) (by kernel_rfl) (T := 47) (by_ := 64) (by kernel_rfl) nl ([(⟨xe55.p, xe55.n, xe55.cap, xe55.l, xe55.th, xe55.tl, xe55.tw, xe55.ord, xe55.fresh⟩ : EnA)]) hNx (fun w hw => src_svn Try.underlying34 (sv_row (hw.row 0 rfl) (by rfl)) (by rfl)) (by rfl) (by have hmx : maxLen = 9223372036854775807 := rfl; omega) (by have hmx : maxLen = 9223372036854775807 := rfl; omega) (fun Y99 p99 cap99 hO99 => qo0 1 [] [1, 3, 55, 56, 57] [(18, .slice p99 (nn + 1) cap99)] (on_ (ds_ (qa0 [] [1, 3, 55, 56, 57] [(13, .slice p99 (nn + 1) cap99)] (done_block (ds_ (qa [(0, .fit)] [1, 3, 13, 55, 56] [(57, .int .i64 (i + 1 : Nat))] ([Fit .i64 ((i + 1 : Nat))]) (al1 (fit64 (by omega) (by omega))) (Done.pick [[bx (γ98 0) (#[.slice xe55.p xe55.n xe55.cap, .int .u64 xe55.th, .int .u64 xe55.tl, .int .u64 xe55.tw, .int .u64 xe55.ord, .bool xe55.fresh]) 47], [bx (γ56 0) (#[.slice xe55.p xe55.n xe55.cap, .int .u64 xe55.th, .int .u64 xe55.tl, .int .u64 xe55.tw, .int .u64 xe55.ord, .bool xe55.fresh]) 47], Y99, Yx55, Yz, Yj] [2, 5, 3] [0, 1, 4] ((Y99 ++ (Yj ++ (Yx55 ++ [])))) (by kernel_rfl) rfl rfl ?_)))))))))))))
            have hnn9 := hnn
            rw [q96] at hnn9
            simp at hnn9
            obtain ⟨Yw, hYw, hGw⟩ := insA_got hGe hOx55
            refine Done.as (L' := (Y99 ++ ((Yj ++ Yx55) ++ []))) (by simp only [List.append_assoc, List.cons_append, List.nil_append, List.append_nil]) (Done.perm ?_ ((List.Perm.append_right [] hYw.symm).append_left Y99))
            exact dr [1, 3, 13, 55, 56, 57] (i + 1, insA xe55 ol, Y99, p99, (nn + 1), cap99, Yw) ⟨by omega, by omega, SlO.asE hO99 (nx_end0 hN q96 (by omega)), hGw, by rw [ord_yes (show ((al ++ sl).map IntsA.l)[i]? = some x52.l from by rw [List.getElem?_map, hx52]; rfl) (by simpa using (hbe55.symm.trans q58)), insA_val, hV, hvx55], insA_U hUe hUx55⟩
          ·
            refine qa0 [] [1, 3, 16, 18, 55, 56, 57] [(93, .bool false)] (ds_ (f_ (at_skip (ds_ (qa0 [] [1, 3, 55, 56, 57] [(13, .slice pn nn cn)] (done_block (ds_ (qa [(0, .fit)] [1, 3, 13, 55, 56] [(57, .int .i64 (i + 1 : Nat))] ([Fit .i64 ((i + 1 : Nat))]) (al1 (fit64 (by omega) (by omega))) (Done.pick [[bx (γ56 0) (#[.slice xe55.p xe55.n xe55.cap, .int .u64 xe55.th, .int .u64 xe55.tl, .int .u64 xe55.tw, .int .u64 xe55.ord, .bool xe55.fresh]) 47], Yn, Yx55, Yz, Yj] [1, 4, 2] [0, 3] ((Yn ++ (Yj ++ (Yx55 ++ [])))) (by kernel_rfl) rfl rfl ?_)))))))))
            have hnn9 := hnn
            rw [q96] at hnn9
            simp at hnn9
            obtain ⟨Yw, hYw, hGw⟩ := insA_got hGe hOx55
            refine Done.as (L' := (Yn ++ ((Yj ++ Yx55) ++ []))) (by simp only [List.append_assoc, List.cons_append, List.nil_append, List.append_nil]) (Done.perm ?_ ((List.Perm.append_right [] hYw.symm).append_left Yn))
            exact dr [1, 3, 13, 55, 56, 57] (i + 1, insA xe55 ol, Yn, pn, nn, cn, Yw) ⟨by omega, by omega, SlO.asE hNx (nx_end1 hN q96 (by omega)), hGw, by rw [ord_yes (show ((al ++ sl).map IntsA.l)[i]? = some x52.l from by rw [List.getElem?_map, hx52]; rfl) (by simpa using (hbe55.symm.trans q58)), insA_val, hV, hvx55], insA_U hUe hUx55⟩
    ·
      refine qa [(0, .no)] [1, 3, 13, 55, 56, 57] [(58, .bool false)] ([¬ (((i : Nat) : Int) < ((nu : Nat) : Int))]) (al1 q47) (ds_ (sq_ (f_ (at_leave _ rfl (ds_ (sq_ (qa0 [] [] [(6, .slice pz nz cz)] (ds_ (rt ([]) (.slice pz nz cz) ?_)))))))))
      rw [ord_all (by rw [List.length_map]; omega) hR9] at hV
      exact fun w' hw => ⟨_, _, _, _, _, _, rfl, hZ, hGe, hV, hUe, (hS45.over hw).below, two_tails14 (Hs.pick [Yz, Yj] [0, 1] [] (by kernel_rfl) (hS45.over hw))⟩
end Go.Proofs.Ytoljahfofkmdaaa

/-! Order: few entities, few members. -/
namespace Go.Proofs.Ytoljahfofkmdaaa
open Go Go.RowKit

set_option maxRecDepth 100000 in
theorem ints_t (p : Option Addr) (n cap : Nat) (l : List Int) (w : World)
 (hsl : Sv w p l) (hn : n = l.length) (hcp : n ≤ cap) (hb : n ≤ 9223372036854775807)
 : Calls Try.prog 31 #[.slice p n cap] w fun e w' => ∃ q' n' c' Y, e = .returned (.slice q' n' c') ∧ SlO 3 Y q' n' c' (l.take 17) ∧ Below w.heap.size w w' ∧ Hs w Y w' := by
 refine enter (Hs.start w) Try.func31 rfl Try.ntmps31 rfl (sq_ (qa0 [] [0] [] (ds_ (sq_ (ao_ (mo 6 [(5, .sl (.slice p (min n 17) cap))] [] (fun γ2 => [(3, .slice (some ⟨γ2 0, 0, none⟩) 0 0), (8, .slice p (min n 17) cap)]) (fun γ2 L => bx (γ2 0) (#[]) 3 :: L) (fun γ2 => [SlRun Try.prog 40 (.slice p n cap) none (some (.int .i64 (if (17 : Int) < ((n : Nat) : Int) then 17 else (n : Nat)))) none (.slice p (min n 17) cap)]) (fun γ2 => (al1 (by rw [min_if17]; exact slE_hi (P := Try.prog) (h := (min n 17)) (T := 40) (e := 3) (k := 1) (by_ := 8) (by kernel_rfl) (by omega)))) (fun γ2 => ops_append (α := Int) [] ([bx (γ2 0) (#[]) 3]) ([]) (mvE rfl) rfl (by kernel_rfl) (by kernel_rfl) (p := (some ⟨γ2 0, 0, none⟩)) (n := 0) (cap := 0) (m := (min n 17)) (yv := .slice p (min n 17) cap) (by kernel_rfl) (by kernel_rfl) (T := 3) (by_ := 8) (by kernel_rfl) ([]) (l.take (min n 17)) (SlO.lit (by rfl) (by rfl) (by simp [maxLen])) (fun w hw => src_svn Try.underlying40 ((hsl.kept hw.below).take (min n 17)) (by rw [List.length_take]; omega)) (by rw [List.length_take]; omega) (by have hmx : maxLen = 9223372036854775807 := rfl; omega) (by have hmx : maxLen = 9223372036854775807 := rfl; omega) (fun Y3 p3 cap3 hO3 => qo0 1 [] [] [(2, .slice p3 (0 + (min n 17)) cap3)] (on_ (ds_ (rt ([]) (.slice p3 (0 + (min n 17)) cap3) ?_)))))))))))
 exact fun w' hw => ⟨_, _, _, _, rfl, SlO.asE hO3 (by rw [List.nil_append, take_min hn]), hw.below, one_tail14 (Hs.pick [Y3] [0] [] (by kernel_rfl) hw)⟩

end Go.Proofs.Ytoljahfofkmdaaa

/-! Order: what of a row is put in order. -/
namespace Go.Proofs.Ytoljahfofkmdaaa
open Go Go.RowKit

set_option maxRecDepth 100000 in
theorem rcopy_t (p : Option Addr) (n cap : Nat) (ts : List Rn) (w : World)
 (hts : Sv w p ts) (hn : n = ts.length) (hb : n ≤ 1000)
 : Calls Try.prog 32 #[.agg #[.slice p n cap]] w fun e w' => ∃ q' n' c' Y, e = .returned (.agg #[.slice q' n' c']) ∧ SlO 67 Y q' n' c' ts ∧ Below w.heap.size w w' ∧ Hs w Y w' := by
 refine enter (Hs.start w) Try.func32 rfl Try.ntmps32 rfl (sq_ (ma0 [] [] (fun γ1 => [(1, .pointer (some ⟨γ1 0, 0, none⟩)), (2, .pointer (some ⟨γ1 1, 0, none⟩))]) (fun γ1 L => bx (γ1 1) (#[.slice none 0 0]) 26 :: bx (γ1 0) (#[.slice p n cap]) 26 :: L) (fun γ1 => ds_ (sq_ (ao_ (mo0 3 [(2, .go (owns 2 0 1))] [2] (fun γ2 => [(3, .slice (some ⟨γ2 0, 0, none⟩) 0 0), (5, .slice p n cap)]) (fun γ2 L => bx (γ2 0) (#[]) 67 :: L) (fun γ2 => ops_append (α := Rn) [bx (γ1 1) (#[.slice none 0 0]) 26, bx (γ1 0) (#[.slice p n cap]) 26] ([bx (γ2 0) (#[]) 67]) ([]) (mvE rfl) rfl (by kernel_rfl) (by kernel_rfl) (p := (some ⟨γ2 0, 0, none⟩)) (n := 0) (cap := 0) (m := n) (yv := .slice p n cap) (by kernel_rfl) (by kernel_rfl) (T := 67) (by_ := 40) (by kernel_rfl) ([]) ts (SlO.lit (by rfl) (by rfl) (by simp [maxLen])) (fun w hw => src_svn Try.underlying24 (hts.kept hw.below) hn) hn (by have hmx : maxLen = 9223372036854775807 := rfl; omega) (by have hmx : maxLen = 9223372036854775807 := rfl; omega) (fun Y3 p3 cap3 hO3 => mo0 2 [(5, .go (owns 0 0 1))] [2] (fun _ => []) (fun _ L => (L.set 0 (bx (γ1 1) (#[.slice p3 (0 + n) cap3]) 26))) (fun _ => on_ (ds_ (rt (owns 0 0 1) (.agg #[.slice p3 (0 + n) cap3]) ?_)))))))))))
 exact fun w' hw => ⟨_, _, _, _, rfl, SlO.asE hO3 (by rw [List.nil_append]), hw.below, one_tail (Hs.pick [[bx (γ1 1) (#[.slice p3 (0 + n) cap3]) 26], [bx (γ1 0) (#[.slice p n cap]) 26], Y3] [2] [0, 1] (by kernel_rfl) hw)⟩
theorem four_tails {w0 w : World} {A B C D : List Ob} (h : Hs w0 (A ++ (B ++ (C ++ (D ++ [])))) w) : Hs w0 (A ++ (B ++ (C ++ D))) w := by rwa [List.append_nil] at h

set_option maxRecDepth 100000 in
theorem rowshort_t (p : Option Addr) (n cap : Nat) (ts : List Rn) (pw : Option Addr) (nw capw : Nat) (ws : List Wt) (q : Option Addr) (m capq : Nat) (al : List IntsA) (w : World)
 (hts : Sv w p ts) (hn : n = ts.length) (hcp : n ≤ cap) (hbg : cap ≤ 9223372036854775807)
 (hws : Sv w pw ws) (hnw : nw = ws.length) (hcw : nw ≤ capw) (hbw : capw ≤ 9223372036854775807)
 (hal : Sv w q al) (hma : m = al.length) (hcq : m ≤ capq) (hbq : capq ≤ 9223372036854775807) (hnm : ∀ x ∈ al, x.Reads w)
 : Calls Try.prog 10 #[.agg #[.slice p n cap, .slice pw nw capw, .slice q m capq]] w fun e w' => ∃ q1 n1 c1 Y1 q2 n2 c2 Y2 q3 n3 c3 Y3 bl Yi, e = .returned (.agg #[.slice q1 n1 c1, .slice q2 n2 c2, .slice q3 n3 c3]) ∧ SlO 67 Y1 q1 n1 c1 (ts.take 17) ∧ SlO 51 Y2 q2 n2 c2 (ws.take 17) ∧ SlO 40 Y3 q3 n3 c3 bl ∧ GotR 3 Yi bl ∧ bl.map IntsA.l = shortG (al.map IntsA.l) ∧ Below w.heap.size w w' ∧ Hs w (Y1 ++ (Y2 ++ (Y3 ++ Yi))) w' := by
 refine enter (Hs.start w) Try.func10 rfl Try.ntmps10 rfl (sq_ (ma0 [] [] (fun γ1 => [(1, .pointer (some ⟨γ1 0, 0, none⟩)), (2, .pointer (some ⟨γ1 1, 0, none⟩))]) (fun γ1 L => bx (γ1 1) (#[.slice none 0 0, .slice none 0 0, .slice none 0 0]) 30 :: bx (γ1 0) (#[.slice p n cap, .slice pw nw capw, .slice q m capq]) 30 :: L) (fun γ1 => ds_ (sq_ (qa0 [] [1, 2] [(3, .slice none 0 0)] (ds_ (sq_ (sq_ (qa0 [(1, .go (owns 1 2 1))] [1, 2, 3] [(8, .slice q m capq), (9, .int .i64 (m : Nat)), (10, .int .i64 0)] (ds_ (at_block (at_loop (α := Nat × List Ob × Option Addr × Nat × Nat × List IntsA × List Ob) [1, 2, 3, 8, 9, 10] (fun ⟨j, Yo, po, nu, co, bl, Yi⟩ => [(1, .pointer (some ⟨γ1 0, 0, none⟩)), (2, .pointer (some ⟨γ1 1, 0, none⟩)), (3, .slice po nu co), (8, .slice q m capq), (9, .int .i64 (m : Nat)), (10, .int .i64 (j : Nat))]) (fun ⟨j, Yo, po, nu, co, bl, Yi⟩ => bx (γ1 1) (#[.slice none 0 0, .slice none 0 0, .slice none 0 0]) 30 :: bx (γ1 0) (#[.slice p n cap, .slice pw nw capw, .slice q m capq]) 30 :: (Yo ++ (Yi ++ []))) (fun ⟨j, Yo, po, nu, co, bl, Yi⟩ => j ≤ m ∧ nu ≤ j ∧ SlO 40 Yo po nu co bl ∧ GotR 3 Yi bl ∧ bl.map IntsA.l = shortG ((al.take j).map IntsA.l)) (fun ⟨j, Yo, po, nu, co, bl, Yi⟩ => m - j) (0, [], none, 0, 0, [], []) (by kernel_rfl) rfl ⟨Nat.zero_le _, Nat.le_refl _, SlO.nil, GotR.nil, rfl⟩ ?_))))))))))))
 rintro ⟨j, Yo, po, nu, co, bl, Yi⟩
 rintro ⟨hj, hnu, hO, hG, hB⟩
 have hlb := hO.len
 refine sq_ ?_
 by_cases q5 : ((j : Nat) : Int) < ((m : Nat) : Int)
 ·
  refine qa [(0, .yes)] [1, 2, 3, 8, 9, 10] [(11, .bool true)] ([((j : Nat) : Int) < ((m : Nat) : Int)]) (al1 q5) (ds_ (sq_ (t_ (at_skip (ds_ (sq_ (at_block (sq_ ?_))))))))
  obtain ⟨b8, o8, rfl⟩ := hal.pos (i := j) (by omega)
  obtain ⟨x10, hx10⟩ := get_some (l := al) (m := j) (by omega)
  obtain ⟨hsx10, hnx10, hcx10, hbx10⟩ := hnm x10 (List.mem_of_getElem? hx10)
  refine qa [(1, .at b8 o8 j), (2, .go (outs b8 (o8 + j * 1) [.slice x10.p x10.n x10.cap]))] [1, 2, 3, 8, 9, 10] [(4, .int .i64 (j : Nat)), (5, .slice x10.p x10.n x10.cap)] ([(some ⟨b8, o8, none⟩ : Option Addr) = some ⟨b8, o8, none⟩, (j : Nat) = ((j : Nat) : Int), j < m] ++ (cellsP w b8 (o8 + j * 1) [.slice x10.p x10.n x10.cap])) (alA (al2 rfl (al2 rfl (al1 (by omega)))) (rd_pre (hal.get hx10) _ rfl)) (ds_ (sq_ ?_))
  by_cases q13 : ((j : Nat) : Int) < (17 : Int)
  ·
   refine qa [(1, .yes)] [1, 2, 3, 5, 8, 9, 10] [(16, .bool true)] ([((j : Nat) : Int) < (17 : Int)]) (al1 q13) (ds_ (t_ (ao_ (qo0 2 [] [1, 2, 8, 9, 10] [(17, .slice po nu co), (18, .slice x10.p x10.n x10.cap)] (cP (fun v L' => ∃ q_ n_ c_ Y_, v = .slice q_ n_ c_ ∧ L' = List.take 2 (bx (γ1 1) (#[.slice none 0 0, .slice none 0 0, .slice none 0 0]) 30 :: bx (γ1 0) (#[.slice p n cap, .slice pw nw capw, .slice (some ⟨b8, o8, none⟩) m capq]) 30 :: (Yo ++ (Yi ++ []))) ++ (Y_ ++ List.drop 2 (bx (γ1 1) (#[.slice none 0 0, .slice none 0 0, .slice none 0 0]) 30 :: bx (γ1 0) (#[.slice p n cap, .slice pw nw capw, .slice (some ⟨b8, o8, none⟩) m capq]) 30 :: (Yo ++ (Yi ++ [])))) ∧ SlO 3 Y_ q_ n_ c_ (x10.l.take 17)) Try.call31 (fun w hw => (ints_t x10.p x10.n x10.cap x10.l w (hsx10.kept hw.below) hnx10 (by omega) (by omega)).mono fun e w' ⟨q_, n_, c_, Y_, he, hO, hb, hY⟩ => ⟨_, _, he, ⟨q_, n_, c_, Y_, rfl, rfl, hO⟩, hw.join hb hY 2⟩) ?_)))))
   rintro v16 L16 ⟨q16, n16, c16, Y16, rfl, rfl, hO16⟩
   refine mo0 1 [] [1, 2, 8, 9, 10, 17] (fun γ17 => [(20, .slice (some ⟨γ17 0, 0, none⟩) 1 1)]) (fun γ17 L => bx (γ17 0) (#[.slice q16 n16 c16]) 40 :: L) (fun γ17 => Ops.pick [[bx (γ17 0) (#[.slice q16 n16 c16]) 40], [bx (γ1 1) (#[.slice none 0 0, .slice none 0 0, .slice none 0 0]) 30], [bx (γ1 0) (#[.slice p n cap, .slice pw nw capw, .slice (some ⟨b8, o8, none⟩) m capq]) 30], Y16, Yo, Yi] [0, 1, 2, 4, 3, 5] [] (bx (γ17 0) (#[.slice q16 n16 c16]) 40 :: bx (γ1 1) (#[.slice none 0 0, .slice none 0 0, .slice none 0 0]) 30 :: bx (γ1 0) (#[.slice p n cap, .slice pw nw capw, .slice (some ⟨b8, o8, none⟩) m capq]) 30 :: (Yo ++ (Y16 ++ (Yi ++ [])))) (by kernel_rfl) rfl rfl (ops_append (α := IntsA) [bx (γ17 0) (#[.slice q16 n16 c16]) 40, bx (γ1 1) (#[.slice none 0 0, .slice none 0 0, .slice none 0 0]) 30, bx (γ1 0) (#[.slice p n cap, .slice pw nw capw, .slice (some ⟨b8, o8, none⟩) m capq]) 30] Yo (Y16 ++ (Yi ++ [])) (.refl _) rfl (by kernel_rfl) (by kernel_rfl) (p := po) (n := nu) (cap := co) (m := 1) (yv := .slice (some ⟨γ17 0, 0, none⟩) 1 1) (by kernel_rfl) (by kernel_rfl) (T := 40) (by_ := 24) (by kernel_rfl) bl ([(⟨q16, n16, c16, (x10.l.take 17)⟩ : IntsA)]) hO (fun w hw => src_svn Try.underlying28 (sv_row (hw.row 0 rfl) (by rfl)) (by rfl)) (by rfl) (by have hmx : maxLen = 9223372036854775807 := rfl; omega) (by have hmx : maxLen = 9223372036854775807 := rfl; omega) (fun Y18 p18 cap18 hO18 => qo0 1 [] [1, 2, 8, 9, 10] [(3, .slice p18 (nu + 1) cap18)] (on_ (done_block (ds_ (qa [(0, .fit)] [1, 2, 3, 8, 9] [(10, .int .i64 (j + 1 : Nat))] ([Fit .i64 ((j + 1 : Nat))]) (al1 (fit64 (by omega) (by omega))) (Done.pick [[bx (γ17 0) (#[.slice q16 n16 c16]) 40], [bx (γ1 1) (#[.slice none 0 0, .slice none 0 0, .slice none 0 0]) 30], [bx (γ1 0) (#[.slice p n cap, .slice pw nw capw, .slice (some ⟨b8, o8, none⟩) m capq]) 30], Y18, Y16, Yi] [1, 2, 3, 5, 4] [0] (bx (γ1 1) (#[.slice none 0 0, .slice none 0 0, .slice none 0 0]) 30 :: bx (γ1 0) (#[.slice p n cap, .slice pw nw capw, .slice (some ⟨b8, o8, none⟩) m capq]) 30 :: (Y18 ++ (Yi ++ (Y16 ++ [])))) (by kernel_rfl) rfl rfl (Done.as (L' := bx (γ1 1) (#[.slice none 0 0, .slice none 0 0, .slice none 0 0]) 30 :: bx (γ1 0) (#[.slice p n cap, .slice pw nw capw, .slice (some ⟨b8, o8, none⟩) m capq]) 30 :: (Y18 ++ ((Yi ++ Y16) ++ []))) (by simp only [List.append_assoc]) ?_)))))))))
   exact dr [1, 2, 3, 8, 9, 10] (j + 1, Y18, p18, (nu + 1), cap18, (bl ++ [(⟨q16, n16, c16, (x10.l.take 17)⟩ : IntsA)]), Yi ++ Y16) ⟨by omega, by omega, hO18, GotR.snoc (x := (⟨q16, n16, c16, (x10.l.take 17)⟩ : IntsA)) hG hO16, sg_on hB hx10 (by omega) rfl⟩
  ·
   refine qa [(1, .no)] [1, 2, 3, 5, 8, 9, 10] [(16, .bool false)] ([¬ (((j : Nat) : Int) < (17 : Int))]) (al1 q13) (ds_ (f_ (at_skip (done_block (ds_ (qa [(0, .fit)] [1, 2, 3, 8, 9] [(10, .int .i64 (j + 1 : Nat))] ([Fit .i64 ((j + 1 : Nat))]) (al1 (fit64 (by omega) (by omega))) ?_))))))
   exact dr [1, 2, 3, 8, 9, 10] (j + 1, Yo, po, nu, co, bl, Yi) ⟨by omega, by omega, hO, hG, sg_out hB (by omega)⟩
 ·
  refine qa [(0, .no)] [1, 2, 3, 8, 9, 10] [(11, .bool false)] ([¬ (((j : Nat) : Int) < ((m : Nat) : Int))]) (al1 q5) (ds_ (sq_ (f_ (at_leave _ rfl (ds_ (sq_ (ao_ (qo 10 [(2, .go (owns 1 0 1)), (5, .go (owns 1 0 1)), (8, .sl (.slice p (min n 17) cap))] [1, 2, 3] [(32, .agg #[.slice p (min n 17) cap])] ([SlRun Try.prog 24 (.slice p n cap) none (some (.int .i64 (if (17 : Int) < ((n : Nat) : Int) then 17 else (n : Nat)))) none (.slice p (min n 17) cap)]) (al1 (by rw [min_if17]; exact slE_hi (P := Try.prog) (h := (min n 17)) (T := 24) (e := 67) (k := 5) (by_ := 40) (by kernel_rfl) (by omega))) (cP (fun v L' => ∃ q_ n_ c_ Y_, v = .agg #[.slice q_ n_ c_] ∧ L' = List.take 2 (bx (γ1 1) (#[.slice none 0 0, .slice none 0 0, .slice none 0 0]) 30 :: bx (γ1 0) (#[.slice p n cap, .slice pw nw capw, .slice q m capq]) 30 :: (Yo ++ (Yi ++ []))) ++ (Y_ ++ List.drop 2 (bx (γ1 1) (#[.slice none 0 0, .slice none 0 0, .slice none 0 0]) 30 :: bx (γ1 0) (#[.slice p n cap, .slice pw nw capw, .slice q m capq]) 30 :: (Yo ++ (Yi ++ [])))) ∧ SlO 67 Y_ q_ n_ c_ (ts.take (min n 17))) Try.call32 (fun w hw => (rcopy_t p (min n 17) cap (ts.take (min n 17)) w ((hts.kept hw.below).take (min n 17)) (by rw [List.length_take]; omega) (by omega)).mono fun e w' ⟨q_, n_, c_, Y_, he, hO, hb, hY⟩ => ⟨_, _, he, ⟨q_, n_, c_, Y_, rfl, rfl, hO⟩, hw.join hb hY 2⟩) ?_)))))))))
  rintro v25 L25 ⟨q25, n25, c25, Y25, rfl, rfl, hO25⟩
  refine mo0 2 [(12, .go (owns 0 0 1))] [1, 2, 3] (fun γ26 => [(6, .pointer (some ⟨γ26 0, 0, none⟩))]) (fun γ26 L => bx (γ26 0) (#[.slice q25 n25 c25]) 26 :: L) (fun γ26 => on_ (ds_ (sq_ ?_)))
  refine at_any (by kernel_rfl) ?_
  refine tk (m := 10) [2, 4, 10] [] [2, 6] [(36, .pointer (some ⟨γ1 0, 1, none⟩)), (38, .pointer (some ⟨γ1 0, 1, none⟩)), (44, .slice po nu co)] ([]) #[false, false, true, false, true, false, false, false, false, false, true, false, false] al0 ?_
  refine any_cutX (V := (List Ob) × (Nat) × (Option Addr) × (Nat → Nat)) (fun ⟨Y210, cap210, p210, γ50⟩ => SlO 51 Y210 p210 (0 + (min nw 17)) cap210 ([] ++ (ws.take (min nw 17)))) 0 #[true, true, true, true, true, true, true, true, true, true, true, true, true] (fun ⟨Y210, cap210, p210, γ50⟩ => [(2, .pointer (some ⟨γ1 1, 0, none⟩))]) (fun ⟨Y210, cap210, p210, γ50⟩ => bx (γ26 0) (#[.slice q25 n25 c25]) 26 :: bx (γ1 1) (#[.slice q25 n25 c25, .slice p210 (0 + (min nw 17)) cap210, .slice po nu co]) 30 :: bx (γ1 0) (#[.slice p n cap, .slice pw nw capw, .slice q m capq]) 30 :: (Y210 ++ (Y25 ++ (Yo ++ (Yi ++ []))))) ?_ (fun hmx22 => ?_)
  rotate_left
  ·
   refine any_cutX (V := (List Ob) × (Nat) × (Option Addr) × (Nat → Nat)) (fun ⟨Y210, cap210, p210, γ50⟩ => SlO 51 Y210 p210 (0 + (min nw 17)) cap210 ([] ++ (ws.take (min nw 17)))) 1 #[true, true, true, true, true, true, true, true, true, true, true, true, false] (fun ⟨Y210, cap210, p210, γ50⟩ => [(2, .pointer (some ⟨γ1 1, 0, none⟩)), (45, .agg #[.slice q25 n25 c25, .slice p210 (0 + (min nw 17)) cap210, .slice po nu co])]) (fun ⟨Y210, cap210, p210, γ50⟩ => bx (γ26 0) (#[.slice q25 n25 c25]) 26 :: bx (γ1 1) (#[.slice none 0 0, .slice none 0 0, .slice none 0 0]) 30 :: bx (γ1 0) (#[.slice p n cap, .slice pw nw capw, .slice q m capq]) 30 :: (Y210 ++ (Y25 ++ (Yo ++ (Yi ++ []))))) ?_ (fun hmx21 => ?_)
   ·
    rintro ⟨Y210, cap210, p210, γ50⟩ hO210
    refine a1 12 rfl ?_
    refine mo0 1 [(12, .go (owns 1 0 3))] [2] (fun _ => []) (fun _ L => (L.set 1 (bx (γ1 1) (#[.slice q25 n25 c25, .slice p210 (0 + (min nw 17)) cap210, .slice po nu co]) 30))) (fun _ => ?_)
    refine od_ ?_
    exact wk (hmx22 (Y210, cap210, p210, γ50) hO210) [2] [[_], [_], [_], _, _, _, _] [0, 1, 2, 3, 4, 5, 6] rfl rfl
   refine any_cutX (V := (List Ob) × (Nat) × (Option Addr) × (Nat → Nat)) (fun ⟨Y210, cap210, p210, γ50⟩ => SlO 51 Y210 p210 (0 + (min nw 17)) cap210 ([] ++ (ws.take (min nw 17)))) 3 #[false, true, true, true, true, true, true, true, true, true, true, false, false] (fun ⟨Y210, cap210, p210, γ50⟩ => [(2, .pointer (some ⟨γ1 1, 0, none⟩)), (6, .pointer (some ⟨γ26 0, 0, none⟩)), (43, .slice p210 (0 + (min nw 17)) cap210), (44, .slice po nu co)]) (fun ⟨Y210, cap210, p210, γ50⟩ => bx (γ26 0) (#[.slice q25 n25 c25]) 26 :: bx (γ1 1) (#[.slice none 0 0, .slice none 0 0, .slice none 0 0]) 30 :: bx (γ1 0) (#[.slice p n cap, .slice pw nw capw, .slice q m capq]) 30 :: (Y210 ++ (Y25 ++ (Yo ++ (Yi ++ []))))) ?_ (fun hmx20 => ?_)
   ·
    rintro ⟨Y210, cap210, p210, γ50⟩ hO210
    refine a1 0 rfl ?_
    refine qo0 1 [(0, .go (owns 0 0 1))] [2, 43, 44] [(34, .agg #[.slice q25 n25 c25])] ?_
    refine od_ ?_
    refine tk (m := 1) [11] [] [2] [(45, .agg #[.slice q25 n25 c25, .slice p210 (0 + (min nw 17)) cap210, .slice po nu co])] ([]) #[true, true, true, true, true, true, true, true, true, true, true, true, false] al0 ?_
    exact wk (hmx21 (Y210, cap210, p210, γ50) hO210) [2, 45] [[_], [_], [_], _, _, _, _] [0, 1, 2, 3, 4, 5, 6] rfl rfl
   refine any_cutX (V := (Nat → Nat)) (fun γ50 => True) 3 #[true, true, true, true, true, true, true, true, true, false, true, false, false] (fun γ50 => [(2, .pointer (some ⟨γ1 1, 0, none⟩)), (34, .agg #[.slice q25 n25 c25]), (35, .slice (some ⟨γ50 0, 0, none⟩) 0 0), (42, .slice pw (min nw 17) capw), (44, .slice po nu co)]) (fun γ50 => bx (γ50 0) (#[]) 51 :: bx (γ26 0) (#[.slice q25 n25 c25]) 26 :: bx (γ1 1) (#[.slice none 0 0, .slice none 0 0, .slice none 0 0]) 30 :: bx (γ1 0) (#[.slice p n cap, .slice pw nw capw, .slice q m capq]) 30 :: (Y25 ++ (Yo ++ (Yi ++ [])))) ?_ (fun hmx19 => ?_)
   ·
    rintro γ50 _
    refine a1 9 rfl ?_
    refine ops_append (α := Wt) [bx (γ26 0) (#[.slice q25 n25 c25]) 26, bx (γ1 1) (#[.slice none 0 0, .slice none 0 0, .slice none 0 0]) 30, bx (γ1 0) (#[.slice p n cap, .slice pw nw capw, .slice q m capq]) 30] ([bx (γ50 0) (#[]) 51]) (Y25 ++ (Yo ++ (Yi ++ []))) (mvE rfl) rfl (by kernel_rfl) (by kernel_rfl) (p := (some ⟨γ50 0, 0, none⟩)) (n := 0) (cap := 0) (m := (min nw 17)) (yv := .slice pw (min nw 17) capw) (by kernel_rfl) (by kernel_rfl) (T := 51) (by_ := 24) (by kernel_rfl) ([]) (ws.take (min nw 17)) (SlO.lit (by rfl) (by rfl) (by simp [maxLen])) (fun w hw => src_svn Try.underlying27 ((hws.kept hw.below).take (min nw 17)) (by rw [List.length_take]; omega)) (by rw [List.length_take]; omega) (by have hmx : maxLen = 9223372036854775807 := rfl; omega) (by have hmx : maxLen = 9223372036854775807 := rfl; omega) (fun Y210 p210 cap210 hO210 => ?_)
    refine od_ ?_
    refine tk (m := 1) [11] [] [2] [(45, .agg #[.slice q25 n25 c25, .slice p210 (0 + (min nw 17)) cap210, .slice po nu co])] ([]) #[true, true, true, true, true, true, true, true, true, true, true, true, false] al0 ?_
    exact wk (hmx21 (Y210, cap210, p210, γ50) hO210) [2, 45] [[_], [_], [_], _, _, _, _] [0, 1, 2, 3, 4, 5, 6] rfl rfl
   refine any_cutX (V := (Nat → Nat)) (fun γ50 => True) 4 #[false, true, true, true, true, true, true, true, true, false, true, false, false] (fun γ50 => [(2, .pointer (some ⟨γ1 1, 0, none⟩)), (6, .pointer (some ⟨γ26 0, 0, none⟩)), (35, .slice (some ⟨γ50 0, 0, none⟩) 0 0), (42, .slice pw (min nw 17) capw), (44, .slice po nu co)]) (fun γ50 => bx (γ50 0) (#[]) 51 :: bx (γ26 0) (#[.slice q25 n25 c25]) 26 :: bx (γ1 1) (#[.slice none 0 0, .slice none 0 0, .slice none 0 0]) 30 :: bx (γ1 0) (#[.slice p n cap, .slice pw nw capw, .slice q m capq]) 30 :: (Y25 ++ (Yo ++ (Yi ++ [])))) ?_ (fun hmx18 => ?_)
   ·
    rintro γ50 _
    refine any_fork [0, 9] (by kernel_rfl) (by simp) (each_cons _ rfl ?_ (each_cons _ rfl ?_ (each_nil)))
    ·
     refine qo0 1 [(0, .go (owns 1 0 1))] [2, 35, 42, 44] [(34, .agg #[.slice q25 n25 c25])] ?_
     refine od_ ?_
     exact wk (hmx19 γ50 trivial) [2, 34, 35, 42, 44] [[_], [_], [_], [_], _, _, _] [0, 1, 2, 3, 4, 5, 6] rfl rfl
    ·
     refine ops_append (α := Wt) [bx (γ26 0) (#[.slice q25 n25 c25]) 26, bx (γ1 1) (#[.slice none 0 0, .slice none 0 0, .slice none 0 0]) 30, bx (γ1 0) (#[.slice p n cap, .slice pw nw capw, .slice q m capq]) 30] ([bx (γ50 0) (#[]) 51]) (Y25 ++ (Yo ++ (Yi ++ []))) (mvE rfl) rfl (by kernel_rfl) (by kernel_rfl) (p := (some ⟨γ50 0, 0, none⟩)) (n := 0) (cap := 0) (m := (min nw 17)) (yv := .slice pw (min nw 17) capw) (by kernel_rfl) (by kernel_rfl) (T := 51) (by_ := 24) (by kernel_rfl) ([]) (ws.take (min nw 17)) (SlO.lit (by rfl) (by rfl) (by simp [maxLen])) (fun w hw => src_svn Try.underlying27 ((hws.kept hw.below).take (min nw 17)) (by rw [List.length_take]; omega)) (by rw [List.length_take]; omega) (by have hmx : maxLen = 9223372036854775807 := rfl; omega) (by have hmx : maxLen = 9223372036854775807 := rfl; omega) (fun Y210 p210 cap210 hO210 => ?_)
     refine od_ ?_
     exact wk (hmx20 (Y210, cap210, p210, γ50) hO210) [2, 6, 43, 44] [[_], [_], [_], _, _, _, _] [0, 1, 2, 3, 4, 5, 6] rfl rfl
   refine any_cutX (V := Unit) (fun _ => True) 4 #[true, false, true, true, true, true, true, true, true, false, true, false, false] (fun _ => [(2, .pointer (some ⟨γ1 1, 0, none⟩)), (34, .agg #[.slice q25 n25 c25]), (42, .slice pw (min nw 17) capw), (44, .slice po nu co)]) (fun _ => bx (γ26 0) (#[.slice q25 n25 c25]) 26 :: bx (γ1 1) (#[.slice none 0 0, .slice none 0 0, .slice none 0 0]) 30 :: bx (γ1 0) (#[.slice p n cap, .slice pw nw capw, .slice q m capq]) 30 :: (Y25 ++ (Yo ++ (Yi ++ [])))) ?_ (fun hmx17 => ?_)
   ·
    rintro _ _
    refine a1 1 rfl ?_
    refine mo0 1 [] [2, 34, 42, 44] (fun γ50 => [(35, .slice (some ⟨γ50 0, 0, none⟩) 0 0)]) (fun γ50 L => bx (γ50 0) (#[]) 51 :: L) (fun γ50 => ?_)
    refine od_ ?_
    exact wk (hmx19 γ50 trivial) [2, 34, 35, 42, 44] [[_], [_], [_], [_], _, _, _] [0, 1, 2, 3, 4, 5, 6] rfl rfl
   refine any_cutX (V := (Nat → Nat)) (fun γ50 => True) 4 #[true, true, true, true, true, true, true, true, false, false, true, false, false] (fun γ50 => [(2, .pointer (some ⟨γ1 1, 0, none⟩)), (34, .agg #[.slice q25 n25 c25]), (35, .slice (some ⟨γ50 0, 0, none⟩) 0 0), (37, .slice pw nw capw), (41, .int .i64 (if (17 : Int) < ((nw : Nat) : Int) then 17 else (nw : Nat))), (44, .slice po nu co)]) (fun γ50 => bx (γ50 0) (#[]) 51 :: bx (γ26 0) (#[.slice q25 n25 c25]) 26 :: bx (γ1 1) (#[.slice none 0 0, .slice none 0 0, .slice none 0 0]) 30 :: bx (γ1 0) (#[.slice p n cap, .slice pw nw capw, .slice q m capq]) 30 :: (Y25 ++ (Yo ++ (Yi ++ [])))) ?_ (fun hmx16 => ?_)
   ·
    rintro γ50 _
    refine a1 8 rfl ?_
    refine qo 1 [(8, .sl (.slice pw (min nw 17) capw))] [2, 34, 35, 44] [(42, .slice pw (min nw 17) capw)] ([SlRun Try.prog 27 (.slice pw nw capw) none (some (.int .i64 (if (17 : Int) < ((nw : Nat) : Int) then 17 else (nw : Nat)))) none (.slice pw (min nw 17) capw)]) (al1 (by rw [min_if17]; exact slE_hi (P := Try.prog) (h := (min nw 17)) (T := 27) (e := 51) (k := 3) (by_ := 24) (by kernel_rfl) (by omega))) ?_
    refine od_ ?_
    exact wk (hmx19 γ50 trivial) [2, 34, 35, 42, 44] [[_], [_], [_], [_], _, _, _] [0, 1, 2, 3, 4, 5, 6] rfl rfl
   refine any_cutX (V := Unit) (fun _ => True) 5 #[false, false, true, true, true, true, true, true, true, false, true, false, false] (fun _ => [(2, .pointer (some ⟨γ1 1, 0, none⟩)), (6, .pointer (some ⟨γ26 0, 0, none⟩)), (42, .slice pw (min nw 17) capw), (44, .slice po nu co)]) (fun _ => bx (γ26 0) (#[.slice q25 n25 c25]) 26 :: bx (γ1 1) (#[.slice none 0 0, .slice none 0 0, .slice none 0 0]) 30 :: bx (γ1 0) (#[.slice p n cap, .slice pw nw capw, .slice q m capq]) 30 :: (Y25 ++ (Yo ++ (Yi ++ [])))) ?_ (fun hmx15 => ?_)
   ·
    rintro _ _
    refine any_fork [0, 1] (by kernel_rfl) (by simp) (each_cons _ rfl ?_ (each_cons _ rfl ?_ (each_nil)))
    ·
     refine qo0 1 [(0, .go (owns 0 0 1))] [2, 42, 44] [(34, .agg #[.slice q25 n25 c25])] ?_
     refine od_ ?_
     exact wk (hmx17 () trivial) [2, 34, 42, 44] [[_], [_], [_], _, _, _] [0, 1, 2, 3, 4, 5] rfl rfl
    ·
     refine mo0 1 [] [2, 6, 42, 44] (fun γ50 => [(35, .slice (some ⟨γ50 0, 0, none⟩) 0 0)]) (fun γ50 L => bx (γ50 0) (#[]) 51 :: L) (fun γ50 => ?_)
     refine od_ ?_
     exact wk (hmx18 γ50 trivial) [2, 6, 35, 42, 44] [[_], [_], [_], [_], _, _, _] [0, 1, 2, 3, 4, 5, 6] rfl rfl
   refine any_cutX (V := (Nat → Nat)) (fun γ50 => True) 5 #[false, true, true, true, true, true, true, true, false, false, true, false, false] (fun γ50 => [(2, .pointer (some ⟨γ1 1, 0, none⟩)), (6, .pointer (some ⟨γ26 0, 0, none⟩)), (35, .slice (some ⟨γ50 0, 0, none⟩) 0 0), (37, .slice pw nw capw), (41, .int .i64 (if (17 : Int) < ((nw : Nat) : Int) then 17 else (nw : Nat))), (44, .slice po nu co)]) (fun γ50 => bx (γ50 0) (#[]) 51 :: bx (γ26 0) (#[.slice q25 n25 c25]) 26 :: bx (γ1 1) (#[.slice none 0 0, .slice none 0 0, .slice none 0 0]) 30 :: bx (γ1 0) (#[.slice p n cap, .slice pw nw capw, .slice q m capq]) 30 :: (Y25 ++ (Yo ++ (Yi ++ [])))) ?_ (fun hmx14 => ?_)
   ·
    rintro γ50 _
    refine any_fork [0, 8] (by kernel_rfl) (by simp) (each_cons _ rfl ?_ (each_cons _ rfl ?_ (each_nil)))
    ·
     refine qo0 1 [(0, .go (owns 1 0 1))] [2, 35, 37, 41, 44] [(34, .agg #[.slice q25 n25 c25])] ?_
     refine od_ ?_
     exact wk (hmx16 γ50 trivial) [2, 34, 35, 37, 41, 44] [[_], [_], [_], [_], _, _, _] [0, 1, 2, 3, 4, 5, 6] rfl rfl
    ·
     refine qo 1 [(8, .sl (.slice pw (min nw 17) capw))] [2, 6, 35, 44] [(42, .slice pw (min nw 17) capw)] ([SlRun Try.prog 27 (.slice pw nw capw) none (some (.int .i64 (if (17 : Int) < ((nw : Nat) : Int) then 17 else (nw : Nat)))) none (.slice pw (min nw 17) capw)]) (al1 (by rw [min_if17]; exact slE_hi (P := Try.prog) (h := (min nw 17)) (T := 27) (e := 51) (k := 3) (by_ := 24) (by kernel_rfl) (by omega))) ?_
     refine od_ ?_
     exact wk (hmx18 γ50 trivial) [2, 6, 35, 42, 44] [[_], [_], [_], [_], _, _, _] [0, 1, 2, 3, 4, 5, 6] rfl rfl
   refine any_cutX (V := Unit) (fun _ => True) 5 #[true, false, true, true, true, true, true, true, false, false, true, false, false] (fun _ => [(2, .pointer (some ⟨γ1 1, 0, none⟩)), (34, .agg #[.slice q25 n25 c25]), (37, .slice pw nw capw), (41, .int .i64 (if (17 : Int) < ((nw : Nat) : Int) then 17 else (nw : Nat))), (44, .slice po nu co)]) (fun _ => bx (γ26 0) (#[.slice q25 n25 c25]) 26 :: bx (γ1 1) (#[.slice none 0 0, .slice none 0 0, .slice none 0 0]) 30 :: bx (γ1 0) (#[.slice p n cap, .slice pw nw capw, .slice q m capq]) 30 :: (Y25 ++ (Yo ++ (Yi ++ [])))) ?_ (fun hmx13 => ?_)
   ·
    rintro _ _
    refine any_fork [1, 8] (by kernel_rfl) (by simp) (each_cons _ rfl ?_ (each_cons _ rfl ?_ (each_nil)))
    ·
     refine mo0 1 [] [2, 34, 37, 41, 44] (fun γ50 => [(35, .slice (some ⟨γ50 0, 0, none⟩) 0 0)]) (fun γ50 L => bx (γ50 0) (#[]) 51 :: L) (fun γ50 => ?_)
     refine od_ ?_
     exact wk (hmx16 γ50 trivial) [2, 34, 35, 37, 41, 44] [[_], [_], [_], [_], _, _, _] [0, 1, 2, 3, 4, 5, 6] rfl rfl
    ·
     refine qo 1 [(8, .sl (.slice pw (min nw 17) capw))] [2, 34, 44] [(42, .slice pw (min nw 17) capw)] ([SlRun Try.prog 27 (.slice pw nw capw) none (some (.int .i64 (if (17 : Int) < ((nw : Nat) : Int) then 17 else (nw : Nat)))) none (.slice pw (min nw 17) capw)]) (al1 (by rw [min_if17]; exact slE_hi (P := Try.prog) (h := (min nw 17)) (T := 27) (e := 51) (k := 3) (by_ := 24) (by kernel_rfl) (by omega))) ?_
     refine od_ ?_
     exact wk (hmx17 () trivial) [2, 34, 42, 44] [[_], [_], [_], _, _, _] [0, 1, 2, 3, 4, 5] rfl rfl
   refine any_cutX (V := (Nat → Nat)) (fun γ50 => True) 5 #[true, true, true, false, true, true, true, true, false, false, true, false, false] (fun γ50 => [(2, .pointer (some ⟨γ1 1, 0, none⟩)), (34, .agg #[.slice q25 n25 c25]), (35, .slice (some ⟨γ50 0, 0, none⟩) 0 0), (36, .pointer (some ⟨γ1 0, 1, none⟩)), (41, .int .i64 (if (17 : Int) < ((nw : Nat) : Int) then 17 else (nw : Nat))), (44, .slice po nu co)]) (fun γ50 => bx (γ50 0) (#[]) 51 :: bx (γ26 0) (#[.slice q25 n25 c25]) 26 :: bx (γ1 1) (#[.slice none 0 0, .slice none 0 0, .slice none 0 0]) 30 :: bx (γ1 0) (#[.slice p n cap, .slice pw nw capw, .slice q m capq]) 30 :: (Y25 ++ (Yo ++ (Yi ++ [])))) ?_ (fun hmx12 => ?_)
   ·
    rintro γ50 _
    refine a1 3 rfl ?_
    refine qo0 1 [(3, .go (owns 3 1 1))] [2, 34, 35, 41, 44] [(37, .slice pw nw capw)] ?_
    refine od_ ?_
    exact wk (hmx16 γ50 trivial) [2, 34, 35, 37, 41, 44] [[_], [_], [_], [_], _, _, _] [0, 1, 2, 3, 4, 5, 6] rfl rfl
   refine any_cutX (V := Unit) (fun _ => True) 6 #[false, false, true, true, true, true, true, true, false, false, true, false, false] (fun _ => [(2, .pointer (some ⟨γ1 1, 0, none⟩)), (6, .pointer (some ⟨γ26 0, 0, none⟩)), (37, .slice pw nw capw), (41, .int .i64 (if (17 : Int) < ((nw : Nat) : Int) then 17 else (nw : Nat))), (44, .slice po nu co)]) (fun _ => bx (γ26 0) (#[.slice q25 n25 c25]) 26 :: bx (γ1 1) (#[.slice none 0 0, .slice none 0 0, .slice none 0 0]) 30 :: bx (γ1 0) (#[.slice p n cap, .slice pw nw capw, .slice q m capq]) 30 :: (Y25 ++ (Yo ++ (Yi ++ [])))) ?_ (fun hmx11 => ?_)
   ·
    rintro _ _
    refine any_fork [0, 1, 8] (by kernel_rfl) (by simp) (each_cons _ rfl ?_ (each_cons _ rfl ?_ (each_cons _ rfl ?_ (each_nil))))
    ·
     refine qo0 1 [(0, .go (owns 0 0 1))] [2, 37, 41, 44] [(34, .agg #[.slice q25 n25 c25])] ?_
     refine od_ ?_
     exact wk (hmx13 () trivial) [2, 34, 37, 41, 44] [[_], [_], [_], _, _, _] [0, 1, 2, 3, 4, 5] rfl rfl
    ·
     refine mo0 1 [] [2, 6, 37, 41, 44] (fun γ50 => [(35, .slice (some ⟨γ50 0, 0, none⟩) 0 0)]) (fun γ50 L => bx (γ50 0) (#[]) 51 :: L) (fun γ50 => ?_)
     refine od_ ?_
     exact wk (hmx14 γ50 trivial) [2, 6, 35, 37, 41, 44] [[_], [_], [_], [_], _, _, _] [0, 1, 2, 3, 4, 5, 6] rfl rfl
    ·
     refine qo 1 [(8, .sl (.slice pw (min nw 17) capw))] [2, 6, 44] [(42, .slice pw (min nw 17) capw)] ([SlRun Try.prog 27 (.slice pw nw capw) none (some (.int .i64 (if (17 : Int) < ((nw : Nat) : Int) then 17 else (nw : Nat)))) none (.slice pw (min nw 17) capw)]) (al1 (by rw [min_if17]; exact slE_hi (P := Try.prog) (h := (min nw 17)) (T := 27) (e := 51) (k := 3) (by_ := 24) (by kernel_rfl) (by omega))) ?_
     refine od_ ?_
     exact wk (hmx15 () trivial) [2, 6, 42, 44] [[_], [_], [_], _, _, _] [0, 1, 2, 3, 4, 5] rfl rfl
   refine any_cutX (V := (Nat → Nat)) (fun γ50 => True) 6 #[false, true, true, false, true, true, true, true, false, false, true, false, false] (fun γ50 => [(2, .pointer (some ⟨γ1 1, 0, none⟩)), (6, .pointer (some ⟨γ26 0, 0, none⟩)), (35, .slice (some ⟨γ50 0, 0, none⟩) 0 0), (36, .pointer (some ⟨γ1 0, 1, none⟩)), (41, .int .i64 (if (17 : Int) < ((nw : Nat) : Int) then 17 else (nw : Nat))), (44, .slice po nu co)]) (fun γ50 => bx (γ50 0) (#[]) 51 :: bx (γ26 0) (#[.slice q25 n25 c25]) 26 :: bx (γ1 1) (#[.slice none 0 0, .slice none 0 0, .slice none 0 0]) 30 :: bx (γ1 0) (#[.slice p n cap, .slice pw nw capw, .slice q m capq]) 30 :: (Y25 ++ (Yo ++ (Yi ++ [])))) ?_ (fun hmx10 => ?_)
   ·
    rintro γ50 _
    refine any_fork [0, 3] (by kernel_rfl) (by simp) (each_cons _ rfl ?_ (each_cons _ rfl ?_ (each_nil)))
    ·
     refine qo0 1 [(0, .go (owns 1 0 1))] [2, 35, 36, 41, 44] [(34, .agg #[.slice q25 n25 c25])] ?_
     refine od_ ?_
     exact wk (hmx12 γ50 trivial) [2, 34, 35, 36, 41, 44] [[_], [_], [_], [_], _, _, _] [0, 1, 2, 3, 4, 5, 6] rfl rfl
    ·
     refine qo0 1 [(3, .go (owns 3 1 1))] [2, 6, 35, 41, 44] [(37, .slice pw nw capw)] ?_
     refine od_ ?_
     exact wk (hmx14 γ50 trivial) [2, 6, 35, 37, 41, 44] [[_], [_], [_], [_], _, _, _] [0, 1, 2, 3, 4, 5, 6] rfl rfl
   refine any_cutX (V := Unit) (fun _ => True) 6 #[true, false, true, false, true, true, true, true, false, false, true, false, false] (fun _ => [(2, .pointer (some ⟨γ1 1, 0, none⟩)), (34, .agg #[.slice q25 n25 c25]), (36, .pointer (some ⟨γ1 0, 1, none⟩)), (41, .int .i64 (if (17 : Int) < ((nw : Nat) : Int) then 17 else (nw : Nat))), (44, .slice po nu co)]) (fun _ => bx (γ26 0) (#[.slice q25 n25 c25]) 26 :: bx (γ1 1) (#[.slice none 0 0, .slice none 0 0, .slice none 0 0]) 30 :: bx (γ1 0) (#[.slice p n cap, .slice pw nw capw, .slice q m capq]) 30 :: (Y25 ++ (Yo ++ (Yi ++ [])))) ?_ (fun hmx9 => ?_)
   ·
    rintro _ _
    refine any_fork [1, 3] (by kernel_rfl) (by simp) (each_cons _ rfl ?_ (each_cons _ rfl ?_ (each_nil)))
    ·
     refine mo0 1 [] [2, 34, 36, 41, 44] (fun γ50 => [(35, .slice (some ⟨γ50 0, 0, none⟩) 0 0)]) (fun γ50 L => bx (γ50 0) (#[]) 51 :: L) (fun γ50 => ?_)
     refine od_ ?_
     exact wk (hmx12 γ50 trivial) [2, 34, 35, 36, 41, 44] [[_], [_], [_], [_], _, _, _] [0, 1, 2, 3, 4, 5, 6] rfl rfl
    ·
     refine qo0 1 [(3, .go (owns 2 1 1))] [2, 34, 41, 44] [(37, .slice pw nw capw)] ?_
     refine od_ ?_
     exact wk (hmx13 () trivial) [2, 34, 37, 41, 44] [[_], [_], [_], _, _, _] [0, 1, 2, 3, 4, 5] rfl rfl
   refine any_cutX (V := (Nat → Nat)) (fun γ50 => True) 7 #[true, true, true, true, true, false, false, false, false, false, true, false, false] (fun γ50 => [(2, .pointer (some ⟨γ1 1, 0, none⟩)), (34, .agg #[.slice q25 n25 c25]), (35, .slice (some ⟨γ50 0, 0, none⟩) 0 0), (37, .slice pw nw capw), (38, .pointer (some ⟨γ1 0, 1, none⟩)), (44, .slice po nu co)]) (fun γ50 => bx (γ50 0) (#[]) 51 :: bx (γ26 0) (#[.slice q25 n25 c25]) 26 :: bx (γ1 1) (#[.slice none 0 0, .slice none 0 0, .slice none 0 0]) 30 :: bx (γ1 0) (#[.slice p n cap, .slice pw nw capw, .slice q m capq]) 30 :: (Y25 ++ (Yo ++ (Yi ++ [])))) ?_ (fun hmx8 => ?_)
   ·
    rintro γ50 _
    refine a1 5 rfl ?_
    refine qo0 1 [(5, .go (owns 3 1 1))] [2, 34, 35, 37, 44] [(39, .slice pw nw capw)] ?_
    refine od_ ?_
    refine tk (m := 4) [6, 7] [] [2, 34, 35, 37, 44] [(41, .int .i64 (if (17 : Int) < ((nw : Nat) : Int) then 17 else (nw : Nat)))] ([]) #[true, true, true, true, true, true, true, true, false, false, true, false, false] al0 ?_
    exact wk (hmx16 γ50 trivial) [2, 34, 35, 37, 41, 44] [[_], [_], [_], [_], _, _, _] [0, 1, 2, 3, 4, 5, 6] rfl rfl
   refine any_cutX (V := Unit) (fun _ => True) 7 #[false, false, true, false, true, true, true, true, false, false, true, false, false] (fun _ => [(2, .pointer (some ⟨γ1 1, 0, none⟩)), (6, .pointer (some ⟨γ26 0, 0, none⟩)), (36, .pointer (some ⟨γ1 0, 1, none⟩)), (41, .int .i64 (if (17 : Int) < ((nw : Nat) : Int) then 17 else (nw : Nat))), (44, .slice po nu co)]) (fun _ => bx (γ26 0) (#[.slice q25 n25 c25]) 26 :: bx (γ1 1) (#[.slice none 0 0, .slice none 0 0, .slice none 0 0]) 30 :: bx (γ1 0) (#[.slice p n cap, .slice pw nw capw, .slice q m capq]) 30 :: (Y25 ++ (Yo ++ (Yi ++ [])))) ?_ (fun hmx7 => ?_)
   ·
    rintro _ _
    refine any_fork [0, 1, 3] (by kernel_rfl) (by simp) (each_cons _ rfl ?_ (each_cons _ rfl ?_ (each_cons _ rfl ?_ (each_nil))))
    ·
     refine qo0 1 [(0, .go (owns 0 0 1))] [2, 36, 41, 44] [(34, .agg #[.slice q25 n25 c25])] ?_
     refine od_ ?_
     exact wk (hmx9 () trivial) [2, 34, 36, 41, 44] [[_], [_], [_], _, _, _] [0, 1, 2, 3, 4, 5] rfl rfl
    ·
     refine mo0 1 [] [2, 6, 36, 41, 44] (fun γ50 => [(35, .slice (some ⟨γ50 0, 0, none⟩) 0 0)]) (fun γ50 L => bx (γ50 0) (#[]) 51 :: L) (fun γ50 => ?_)
     refine od_ ?_
     exact wk (hmx10 γ50 trivial) [2, 6, 35, 36, 41, 44] [[_], [_], [_], [_], _, _, _] [0, 1, 2, 3, 4, 5, 6] rfl rfl
    ·
     refine qo0 1 [(3, .go (owns 2 1 1))] [2, 6, 41, 44] [(37, .slice pw nw capw)] ?_
     refine od_ ?_
     exact wk (hmx11 () trivial) [2, 6, 37, 41, 44] [[_], [_], [_], _, _, _] [0, 1, 2, 3, 4, 5] rfl rfl
   refine any_cutX (V := (Nat → Nat)) (fun γ50 => True) 8 #[false, true, true, true, true, false, false, false, false, false, true, false, false] (fun γ50 => [(2, .pointer (some ⟨γ1 1, 0, none⟩)), (6, .pointer (some ⟨γ26 0, 0, none⟩)), (35, .slice (some ⟨γ50 0, 0, none⟩) 0 0), (37, .slice pw nw capw), (38, .pointer (some ⟨γ1 0, 1, none⟩)), (44, .slice po nu co)]) (fun γ50 => bx (γ50 0) (#[]) 51 :: bx (γ26 0) (#[.slice q25 n25 c25]) 26 :: bx (γ1 1) (#[.slice none 0 0, .slice none 0 0, .slice none 0 0]) 30 :: bx (γ1 0) (#[.slice p n cap, .slice pw nw capw, .slice q m capq]) 30 :: (Y25 ++ (Yo ++ (Yi ++ [])))) ?_ (fun hmx6 => ?_)
   ·
    rintro γ50 _
    refine any_fork [0, 5] (by kernel_rfl) (by simp) (each_cons _ rfl ?_ (each_cons _ rfl ?_ (each_nil)))
    ·
     refine qo0 1 [(0, .go (owns 1 0 1))] [2, 35, 37, 38, 44] [(34, .agg #[.slice q25 n25 c25])] ?_
     refine od_ ?_
     exact wk (hmx8 γ50 trivial) [2, 34, 35, 37, 38, 44] [[_], [_], [_], [_], _, _, _] [0, 1, 2, 3, 4, 5, 6] rfl rfl
    ·
     refine qo0 1 [(5, .go (owns 3 1 1))] [2, 6, 35, 37, 44] [(39, .slice pw nw capw)] ?_
     refine od_ ?_
     refine tk (m := 5) [6, 7] [] [2, 6, 35, 37, 44] [(41, .int .i64 (if (17 : Int) < ((nw : Nat) : Int) then 17 else (nw : Nat)))] ([]) #[false, true, true, true, true, true, true, true, false, false, true, false, false] al0 ?_
     exact wk (hmx14 γ50 trivial) [2, 6, 35, 37, 41, 44] [[_], [_], [_], [_], _, _, _] [0, 1, 2, 3, 4, 5, 6] rfl rfl
   refine any_cutX (V := Unit) (fun _ => True) 8 #[true, false, true, true, true, false, false, false, false, false, true, false, false] (fun _ => [(2, .pointer (some ⟨γ1 1, 0, none⟩)), (34, .agg #[.slice q25 n25 c25]), (37, .slice pw nw capw), (38, .pointer (some ⟨γ1 0, 1, none⟩)), (44, .slice po nu co)]) (fun _ => bx (γ26 0) (#[.slice q25 n25 c25]) 26 :: bx (γ1 1) (#[.slice none 0 0, .slice none 0 0, .slice none 0 0]) 30 :: bx (γ1 0) (#[.slice p n cap, .slice pw nw capw, .slice q m capq]) 30 :: (Y25 ++ (Yo ++ (Yi ++ [])))) ?_ (fun hmx5 => ?_)
   ·
    rintro _ _
    refine any_fork [1, 5] (by kernel_rfl) (by simp) (each_cons _ rfl ?_ (each_cons _ rfl ?_ (each_nil)))
    ·
     refine mo0 1 [] [2, 34, 37, 38, 44] (fun γ50 => [(35, .slice (some ⟨γ50 0, 0, none⟩) 0 0)]) (fun γ50 L => bx (γ50 0) (#[]) 51 :: L) (fun γ50 => ?_)
     refine od_ ?_
     exact wk (hmx8 γ50 trivial) [2, 34, 35, 37, 38, 44] [[_], [_], [_], [_], _, _, _] [0, 1, 2, 3, 4, 5, 6] rfl rfl
    ·
     refine qo0 1 [(5, .go (owns 2 1 1))] [2, 34, 37, 44] [(39, .slice pw nw capw)] ?_
     refine od_ ?_
     refine tk (m := 5) [6, 7] [] [2, 34, 37, 44] [(41, .int .i64 (if (17 : Int) < ((nw : Nat) : Int) then 17 else (nw : Nat)))] ([]) #[true, false, true, true, true, true, true, true, false, false, true, false, false] al0 ?_
     exact wk (hmx13 () trivial) [2, 34, 37, 41, 44] [[_], [_], [_], _, _, _] [0, 1, 2, 3, 4, 5] rfl rfl
   refine any_cutX (V := (Nat → Nat)) (fun γ50 => True) 8 #[true, true, true, false, true, false, false, false, false, false, true, false, false] (fun γ50 => [(2, .pointer (some ⟨γ1 1, 0, none⟩)), (34, .agg #[.slice q25 n25 c25]), (35, .slice (some ⟨γ50 0, 0, none⟩) 0 0), (36, .pointer (some ⟨γ1 0, 1, none⟩)), (38, .pointer (some ⟨γ1 0, 1, none⟩)), (44, .slice po nu co)]) (fun γ50 => bx (γ50 0) (#[]) 51 :: bx (γ26 0) (#[.slice q25 n25 c25]) 26 :: bx (γ1 1) (#[.slice none 0 0, .slice none 0 0, .slice none 0 0]) 30 :: bx (γ1 0) (#[.slice p n cap, .slice pw nw capw, .slice q m capq]) 30 :: (Y25 ++ (Yo ++ (Yi ++ [])))) ?_ (fun hmx4 => ?_)
   ·
    rintro γ50 _
    refine any_fork [3, 5] (by kernel_rfl) (by simp) (each_cons _ rfl ?_ (each_cons _ rfl ?_ (each_nil)))
    ·
     refine qo0 1 [(3, .go (owns 3 1 1))] [2, 34, 35, 38, 44] [(37, .slice pw nw capw)] ?_
     refine od_ ?_
     exact wk (hmx8 γ50 trivial) [2, 34, 35, 37, 38, 44] [[_], [_], [_], [_], _, _, _] [0, 1, 2, 3, 4, 5, 6] rfl rfl
    ·
     refine qo0 1 [(5, .go (owns 3 1 1))] [2, 34, 35, 36, 44] [(39, .slice pw nw capw)] ?_
     refine od_ ?_
     refine tk (m := 5) [6, 7] [] [2, 34, 35, 36, 44] [(41, .int .i64 (if (17 : Int) < ((nw : Nat) : Int) then 17 else (nw : Nat)))] ([]) #[true, true, true, false, true, true, true, true, false, false, true, false, false] al0 ?_
     exact wk (hmx12 γ50 trivial) [2, 34, 35, 36, 41, 44] [[_], [_], [_], [_], _, _, _] [0, 1, 2, 3, 4, 5, 6] rfl rfl
   refine any_cutX (V := Unit) (fun _ => True) 9 #[false, false, true, true, true, false, false, false, false, false, true, false, false] (fun _ => [(2, .pointer (some ⟨γ1 1, 0, none⟩)), (6, .pointer (some ⟨γ26 0, 0, none⟩)), (37, .slice pw nw capw), (38, .pointer (some ⟨γ1 0, 1, none⟩)), (44, .slice po nu co)]) (fun _ => bx (γ26 0) (#[.slice q25 n25 c25]) 26 :: bx (γ1 1) (#[.slice none 0 0, .slice none 0 0, .slice none 0 0]) 30 :: bx (γ1 0) (#[.slice p n cap, .slice pw nw capw, .slice q m capq]) 30 :: (Y25 ++ (Yo ++ (Yi ++ [])))) ?_ (fun hmx3 => ?_)
   ·
    rintro _ _
    refine any_fork [0, 1, 5] (by kernel_rfl) (by simp) (each_cons _ rfl ?_ (each_cons _ rfl ?_ (each_cons _ rfl ?_ (each_nil))))
    ·
     refine qo0 1 [(0, .go (owns 0 0 1))] [2, 37, 38, 44] [(34, .agg #[.slice q25 n25 c25])] ?_
     refine od_ ?_
     exact wk (hmx5 () trivial) [2, 34, 37, 38, 44] [[_], [_], [_], _, _, _] [0, 1, 2, 3, 4, 5] rfl rfl
    ·
     refine mo0 1 [] [2, 6, 37, 38, 44] (fun γ50 => [(35, .slice (some ⟨γ50 0, 0, none⟩) 0 0)]) (fun γ50 L => bx (γ50 0) (#[]) 51 :: L) (fun γ50 => ?_)
     refine od_ ?_
     exact wk (hmx6 γ50 trivial) [2, 6, 35, 37, 38, 44] [[_], [_], [_], [_], _, _, _] [0, 1, 2, 3, 4, 5, 6] rfl rfl
    ·
     refine qo0 1 [(5, .go (owns 2 1 1))] [2, 6, 37, 44] [(39, .slice pw nw capw)] ?_
     refine od_ ?_
     refine tk (m := 6) [6, 7] [] [2, 6, 37, 44] [(41, .int .i64 (if (17 : Int) < ((nw : Nat) : Int) then 17 else (nw : Nat)))] ([]) #[false, false, true, true, true, true, true, true, false, false, true, false, false] al0 ?_
     exact wk (hmx11 () trivial) [2, 6, 37, 41, 44] [[_], [_], [_], _, _, _] [0, 1, 2, 3, 4, 5] rfl rfl
   refine any_cutX (V := (Nat → Nat)) (fun γ50 => True) 9 #[false, true, true, false, true, false, false, false, false, false, true, false, false] (fun γ50 => [(2, .pointer (some ⟨γ1 1, 0, none⟩)), (6, .pointer (some ⟨γ26 0, 0, none⟩)), (35, .slice (some ⟨γ50 0, 0, none⟩) 0 0), (36, .pointer (some ⟨γ1 0, 1, none⟩)), (38, .pointer (some ⟨γ1 0, 1, none⟩)), (44, .slice po nu co)]) (fun γ50 => bx (γ50 0) (#[]) 51 :: bx (γ26 0) (#[.slice q25 n25 c25]) 26 :: bx (γ1 1) (#[.slice none 0 0, .slice none 0 0, .slice none 0 0]) 30 :: bx (γ1 0) (#[.slice p n cap, .slice pw nw capw, .slice q m capq]) 30 :: (Y25 ++ (Yo ++ (Yi ++ [])))) ?_ (fun hmx2 => ?_)
   ·
    rintro γ50 _
    refine any_fork [0, 3, 5] (by kernel_rfl) (by simp) (each_cons _ rfl ?_ (each_cons _ rfl ?_ (each_cons _ rfl ?_ (each_nil))))
    ·
     refine qo0 1 [(0, .go (owns 1 0 1))] [2, 35, 36, 38, 44] [(34, .agg #[.slice q25 n25 c25])] ?_
     refine od_ ?_
     exact wk (hmx4 γ50 trivial) [2, 34, 35, 36, 38, 44] [[_], [_], [_], [_], _, _, _] [0, 1, 2, 3, 4, 5, 6] rfl rfl
    ·
     refine qo0 1 [(3, .go (owns 3 1 1))] [2, 6, 35, 38, 44] [(37, .slice pw nw capw)] ?_
     refine od_ ?_
     exact wk (hmx6 γ50 trivial) [2, 6, 35, 37, 38, 44] [[_], [_], [_], [_], _, _, _] [0, 1, 2, 3, 4, 5, 6] rfl rfl
    ·
     refine qo0 1 [(5, .go (owns 3 1 1))] [2, 6, 35, 36, 44] [(39, .slice pw nw capw)] ?_
     refine od_ ?_
     refine tk (m := 6) [6, 7] [] [2, 6, 35, 36, 44] [(41, .int .i64 (if (17 : Int) < ((nw : Nat) : Int) then 17 else (nw : Nat)))] ([]) #[false, true, true, false, true, true, true, true, false, false, true, false, false] al0 ?_
     exact wk (hmx10 γ50 trivial) [2, 6, 35, 36, 41, 44] [[_], [_], [_], [_], _, _, _] [0, 1, 2, 3, 4, 5, 6] rfl rfl
   refine any_cutX (V := Unit) (fun _ => True) 9 #[true, false, true, false, true, false, false, false, false, false, true, false, false] (fun _ => [(2, .pointer (some ⟨γ1 1, 0, none⟩)), (34, .agg #[.slice q25 n25 c25]), (36, .pointer (some ⟨γ1 0, 1, none⟩)), (38, .pointer (some ⟨γ1 0, 1, none⟩)), (44, .slice po nu co)]) (fun _ => bx (γ26 0) (#[.slice q25 n25 c25]) 26 :: bx (γ1 1) (#[.slice none 0 0, .slice none 0 0, .slice none 0 0]) 30 :: bx (γ1 0) (#[.slice p n cap, .slice pw nw capw, .slice q m capq]) 30 :: (Y25 ++ (Yo ++ (Yi ++ [])))) ?_ (fun hmx1 => ?_)
   ·
    rintro _ _
    refine any_fork [1, 3, 5] (by kernel_rfl) (by simp) (each_cons _ rfl ?_ (each_cons _ rfl ?_ (each_cons _ rfl ?_ (each_nil))))
    ·
     refine mo0 1 [] [2, 34, 36, 38, 44] (fun γ50 => [(35, .slice (some ⟨γ50 0, 0, none⟩) 0 0)]) (fun γ50 L => bx (γ50 0) (#[]) 51 :: L) (fun γ50 => ?_)
     refine od_ ?_
     exact wk (hmx4 γ50 trivial) [2, 34, 35, 36, 38, 44] [[_], [_], [_], [_], _, _, _] [0, 1, 2, 3, 4, 5, 6] rfl rfl
    ·
     refine qo0 1 [(3, .go (owns 2 1 1))] [2, 34, 38, 44] [(37, .slice pw nw capw)] ?_
     refine od_ ?_
     exact wk (hmx5 () trivial) [2, 34, 37, 38, 44] [[_], [_], [_], _, _, _] [0, 1, 2, 3, 4, 5] rfl rfl
    ·
     refine qo0 1 [(5, .go (owns 2 1 1))] [2, 34, 36, 44] [(39, .slice pw nw capw)] ?_
     refine od_ ?_
     refine tk (m := 6) [6, 7] [] [2, 34, 36, 44] [(41, .int .i64 (if (17 : Int) < ((nw : Nat) : Int) then 17 else (nw : Nat)))] ([]) #[true, false, true, false, true, true, true, true, false, false, true, false, false] al0 ?_
     exact wk (hmx9 () trivial) [2, 34, 36, 41, 44] [[_], [_], [_], _, _, _] [0, 1, 2, 3, 4, 5] rfl rfl
   refine any_fork [0, 1, 3, 5] (by kernel_rfl) (by simp) (each_cons _ rfl ?_ (each_cons _ rfl ?_ (each_cons _ rfl ?_ (each_cons _ rfl ?_ (each_nil)))))
   ·
    refine qo0 1 [(0, .go (owns 0 0 1))] [2, 36, 38, 44] [(34, .agg #[.slice q25 n25 c25])] ?_
    refine od_ ?_
    exact wk (hmx1 () trivial) [2, 34, 36, 38, 44] [[_], [_], [_], _, _, _] [0, 1, 2, 3, 4, 5] rfl rfl
   ·
    refine mo0 1 [] [2, 6, 36, 38, 44] (fun γ50 => [(35, .slice (some ⟨γ50 0, 0, none⟩) 0 0)]) (fun γ50 L => bx (γ50 0) (#[]) 51 :: L) (fun γ50 => ?_)
    refine od_ ?_
    exact wk (hmx2 γ50 trivial) [2, 6, 35, 36, 38, 44] [[_], [_], [_], [_], _, _, _] [0, 1, 2, 3, 4, 5, 6] rfl rfl
   ·
    refine qo0 1 [(3, .go (owns 2 1 1))] [2, 6, 38, 44] [(37, .slice pw nw capw)] ?_
    refine od_ ?_
    exact wk (hmx3 () trivial) [2, 6, 37, 38, 44] [[_], [_], [_], _, _, _] [0, 1, 2, 3, 4, 5] rfl rfl
   ·
    refine qo0 1 [(5, .go (owns 2 1 1))] [2, 6, 36, 44] [(39, .slice pw nw capw)] ?_
    refine od_ ?_
    refine tk (m := 7) [6, 7] [] [2, 6, 36, 44] [(41, .int .i64 (if (17 : Int) < ((nw : Nat) : Int) then 17 else (nw : Nat)))] ([]) #[false, false, true, false, true, true, true, true, false, false, true, false, false] al0 ?_
    exact wk (hmx7 () trivial) [2, 6, 36, 41, 44] [[_], [_], [_], _, _, _] [0, 1, 2, 3, 4, 5] rfl rfl
  rintro ⟨Y210, cap210, p210, γ50⟩ hO210
  refine any_nil (by kernel_rfl) ?_
  refine ds_ (rt (owns 1 0 3) (.agg #[.slice q25 n25 c25, .slice p210 (0 + (min nw 17)) cap210, .slice po nu co]) ?_)
  rw [sg_all (by omega)] at hB
  exact fun w' hw => ⟨_, _, _, _, _, _, _, _, _, _, _, _, _, _, rfl, SlO.asE hO25 (by first | rw [take_min hn] | rw [List.nil_append, take_min hn]), SlO.asE hO210 (by rw [List.nil_append, take_min hnw]), hO, hG, hB, hw.below, four_tails (Hs.pick [[bx (γ26 0) (#[.slice q25 n25 c25]) 26], [bx (γ1 1) (#[.slice q25 n25 c25, .slice p210 (0 + (min nw 17)) cap210, .slice po nu co]) 30], [bx (γ1 0) (#[.slice p n cap, .slice pw nw capw, .slice q m capq]) 30], Y210, Y25, Yo, Yi] [4, 3, 5, 6] [0, 1, 2] (by kernel_rfl) hw)⟩
end Go.Proofs.Ytoljahfofkmdaaa

/-! Entities: the rows of pairs, step by step; plain. -/
namespace Go.Proofs.Ytoljahfofkmdaaa
open Go Go.RowKit

/-- A row of pairs as an element. -/
structure PsA where
  p : Option Addr
  n : Nat
  cap : Nat
  l : List Pr
def PsA.enc (x : PsA) : List Value := [.slice x.p x.n x.cap]
instance : Enc PsA := ⟨PsA.enc, 1, fun _ => rfl, fun x v h => by simp [PsA.enc] at h; subst h; rfl, by decide⟩
structure PsA.Reads (w : World) (x : PsA) : Prop where
  sv : Sv w x.p x.l
  hn : x.n = x.l.length
  hc : x.n ≤ x.cap
  hb : x.cap ≤ 9223372036854775807
section
variable {w w' w0 : World} {x : PsA} {al : List PsA} {T : TypeId} {Y Yi L : List Ob}
theorem PsA.Reads.kept (h : x.Reads w) (hb : Below w.heap.size w w') : x.Reads w' := ⟨h.sv.kept hb, h.hn, h.hc, h.hb⟩
/-- Rows of one's own, each in a block of its own. -/
def GotP (T : TypeId) (Yi : List Ob) (al : List PsA) : Prop := ∃ Ys : List (List Ob), Yi = Ys.flatten ∧ Ys.length = al.length ∧ ∀ (i : Nat) (Y : List Ob) (x : PsA), Ys[i]? = some Y → al[i]? = some x → SlO T Y x.p x.n x.cap x.l
theorem GotP.nil : GotP T [] [] := ⟨[], rfl, rfl, fun i Y x h => by simp at h⟩
theorem GotP.snoc (h : GotP T Yi al) (hx : SlO T Y x.p x.n x.cap x.l) : GotP T (Yi ++ Y) (al ++ [x]) := by
  obtain ⟨Ys, rfl, hl, hs⟩ := h
  refine ⟨Ys ++ [Y], by simp, by simp [hl], fun i Z z h1 h2 => ?_⟩
  by_cases hi : i < Ys.length
  · rw [List.getElem?_append_left hi] at h1
    rw [List.getElem?_append_left (by omega)] at h2
    exact hs i Z z h1 h2
  · rw [List.getElem?_append_right (by omega)] at h1
    rw [List.getElem?_append_right (by omega)] at h2
    have hz : i - Ys.length = 0 := by
      have := (List.getElem?_eq_some_iff.1 h1).1
      simpa using this
    rw [hz] at h1
    rw [show i - al.length = 0 by omega] at h2
    simp at h1 h2
    subst h1; subst h2
    exact hx
theorem GotP.own (h : GotP T Yi al) (hx : x ∈ al) : ∃ Y, List.Sublist Y Yi ∧ SlO T Y x.p x.n x.cap x.l := by
  obtain ⟨Ys, rfl, hl, hs⟩ := h
  obtain ⟨i, hi⟩ := List.mem_iff_getElem?.1 hx
  have hil := (List.getElem?_eq_some_iff.1 hi).1
  have e : Ys[i]? = some Ys[i] := List.getElem?_eq_getElem (by omega)
  exact ⟨Ys[i], List.sublist_flatten_of_mem (List.getElem_mem _), hs i _ x e hi⟩
theorem GotP.reads (h : GotP T Yi al) (hw : Hs w0 L w) (hs : List.Sublist Yi L) : ∀ x ∈ al, x.Reads w := fun x hx => by
  obtain ⟨Y, h1, h2⟩ := h.own hx
  have hf := h2.facts
  exact ⟨h2.sub hw (h1.trans hs), hf.1, hf.2.1, hf.2.2⟩
/-- One row is taken out, and another laid there. -/
theorem GotP.cut {i : Nat} (h : GotP T Yi al) (hx : al[i]? = some x) : ∃ A Z B, Yi = A ++ (Z ++ B) ∧ SlO T Z x.p x.n x.cap x.l ∧ ∀ (Z' : List Ob) (y : PsA), SlO T Z' y.p y.n y.cap y.l → GotP T (A ++ (Z' ++ B)) (al.set i y) := by
  obtain ⟨Ys, rfl, hl, hs⟩ := h
  have hil := (List.getElem?_eq_some_iff.1 hx).1
  have hiy : i < Ys.length := by omega
  have e : Ys[i]? = some Ys[i] := List.getElem?_eq_getElem hiy
  have hsp : Ys = Ys.take i ++ Ys[i] :: Ys.drop (i + 1) := by rw [← List.drop_eq_getElem_cons hiy, List.take_append_drop]
  refine ⟨(Ys.take i).flatten, Ys[i], (Ys.drop (i + 1)).flatten, ?_, hs i _ x e hx, fun Z' y hy => ⟨Ys.set i Z', ?_, by simp [hl], fun k Z z h1 h2 => ?_⟩⟩
  · have h9 := congrArg List.flatten hsp
    rw [List.flatten_append, List.flatten_cons] at h9
    exact h9
  · rw [List.set_eq_take_append_cons_drop, if_pos hiy]
    simp
  · by_cases hk : i = k
    · subst hk
      rw [List.getElem?_set_self hiy] at h1
      rw [List.getElem?_set_self hil] at h2
      cases h1; cases h2
      exact hy
    · rw [List.getElem?_set_ne hk] at h1 h2
      exact hs k Z z h1 h2
end

section
variable {T : TypeId} {gs : List (List Int)} {ts : List Rn} {ws : List Wt} {zs : List Pr} {p : Pr} {j n M : Nat} {rl : List PsA} {e y : PsA} {D : List (Int × Int)} {l : List Int} {c v : Int} {u : Int → Int} {i : Nat} {g : List Int}
theorem GotP.rep (n : Nat) : GotP T [] (List.replicate n ⟨none, 0, 0, []⟩) :=
  ⟨List.replicate n [], by simp, by simp, fun i Y x h1 h2 => by
      rw [List.getElem?_replicate] at h1 h2
      split at h1
      · rename_i hi
        rw [if_pos hi] at h2
        cases h1; cases h2
        exact SlO.nil
      · cases h1⟩
theorem rows_0 : (List.replicate M (⟨none, 0, 0, []⟩ : PsA)).map PsA.l = (List.range M).map (rowP gs (zs.take 0)) := by
  rw [List.map_replicate, List.take_zero]
  have e : rowP gs [] = fun _ => [] := by funext n; unfold rowP rowZ; split <;> rfl
  rw [e]
  apply List.ext_getElem (by simp)
  intro i h1 h2
  simp
theorem sing_0 : singZ gs (zs.take 0) = [] := by rw [List.take_zero]; rfl
theorem sing_no (hz : zs[j]? = some p) (h : gnV gs p.r.id ≠ 0) : singZ gs (zs.take (j + 1)) = singZ gs (zs.take j) := by
  unfold singZ rowZ
  rw [take_one hz, List.filter_append]
  simp [h]
theorem sing_yes (hz : zs[j]? = some p) (h : gnV gs p.r.id = 0) : singZ gs (zs.take (j + 1)) = singZ gs (zs.take j) ++ [entO [p]] := by
  unfold singZ rowZ
  rw [take_one hz, List.filter_append, List.map_append]
  simp [h]
theorem rowp_on (hz : zs[j]? = some p) : rowP gs (zs.take (j + 1)) n = if n = gnV gs p.r.id ∧ n ≠ 0 then rowP gs (zs.take j) n ++ [p] else rowP gs (zs.take j) n := by
  unfold rowP rowZ
  rw [take_one hz, List.filter_append]
  by_cases h0 : n = 0
  · simp [h0]
  · rw [if_neg h0, if_neg h0]
    by_cases h : gnV gs p.r.id = n
    · rw [if_pos ⟨h.symm, h0⟩]; simp [h]
    · rw [if_neg (fun h2 => h h2.1.symm)]; simp [h]
theorem rowp_no (hz : zs[j]? = some p) (h : gnV gs p.r.id = 0) : (List.range M).map (rowP gs (zs.take (j + 1))) = (List.range M).map (rowP gs (zs.take j)) := by
  apply List.map_congr_left
  intro n _
  rw [rowp_on hz, if_neg (by omega)]
theorem rowp_set (hR : rl.map PsA.l = (List.range M).map (rowP gs (zs.take j))) (hx : rl[n]? = some e) (hz : zs[j]? = some p) (hn : gnV gs p.r.id = n) (h0 : 0 < n) (hy : y.l = e.l ++ [p]) : (rl.set n y).map PsA.l = (List.range M).map (rowP gs (zs.take (j + 1))) := by
  rw [List.map_set, hR, hy]
  have h1 : (rl.map PsA.l)[n]? = some e.l := by rw [List.getElem?_map, hx]; rfl
  rw [hR, List.getElem?_map] at h1
  apply List.ext_getElem?
  intro i
  by_cases hi : i < M
  · by_cases hin : n = i
    · subst hin
      rw [List.getElem?_set_self (by simpa using hi), List.getElem?_map, List.getElem?_range hi]
      rw [List.getElem?_range hi] at h1
      simp only [Option.map_some, Option.some.injEq] at h1 ⊢
      rw [rowp_on hz, if_pos ⟨hn.symm, by omega⟩, h1]
    · rw [List.getElem?_set_ne hin, List.getElem?_map, List.getElem?_map, List.getElem?_range hi]
      simp only [Option.map_some, Option.some.injEq]
      rw [rowp_on hz, if_neg (by omega)]
  · rw [List.getElem?_eq_none (by simpa using hi), List.getElem?_eq_none (by simpa using hi)]
theorem gi_on (hI : ∀ k, (mget D k).getD 0 = if k ∈ l.take i then v else u k) (hx : l[i]? = some c) : ∀ k, (mget (mupd D c v) k).getD 0 = if k ∈ l.take (i + 1) then v else u k := fun k => by
  rw [take_one hx]
  by_cases e : k = c
  · subst e
    rw [mu_get, if_pos (List.mem_append_right _ (List.mem_singleton.2 rfl))]; rfl
  · rw [mu_get_ne e, hI k]
    by_cases h : k ∈ l.take i
    · rw [if_pos h, if_pos (List.mem_append_left _ h)]
    · rw [if_neg h, if_neg (fun h2 => (List.mem_append.1 h2).elim h fun h3 => e (List.mem_singleton.1 h3))]
theorem gj_on (hx : gs[j]? = some g) (hI : ∀ k, (mget D k).getD 0 = if k ∈ g.take i then ((j + 1 : Nat) : Int) else ((gnV (gs.take j) k : Nat) : Int)) (hi : g.length ≤ i) : ∀ k, (mget D k).getD 0 = ((gnV (gs.take (j + 1)) k : Nat) : Int) := fun k => by
  have hj := (List.getElem?_eq_some_iff.1 hx).1
  rw [hI k, List.take_of_length_le hi, take_one hx]
  unfold gnV
  rw [gn_snoc, List.length_take, Nat.min_eq_left (by omega)]
  split
  · simp
  · rfl
theorem row_in (hR : rl.map PsA.l = (List.range M).map (rowP gs zs)) (hx : rl[n]? = some e) : e.l.length ≤ zs.length ∧ ∀ p ∈ e.l, p ∈ zs := by
  have h1 : (rl.map PsA.l)[n]? = some e.l := by rw [List.getElem?_map, hx]; rfl
  rw [hR, List.getElem?_map] at h1
  have hn : n < M := by
    have := (List.getElem?_eq_some_iff.1 hx).1
    have h2 : rl.length = M := by have := congrArg List.length hR; simpa using this
    omega
  rw [List.getElem?_range hn] at h1
  simp only [Option.map_some, Option.some.injEq] at h1
  rw [← h1]
  unfold rowP rowZ
  split
  · exact ⟨Nat.zero_le _, fun p h => by cases h⟩
  · exact ⟨List.length_filter_le _ _, fun p h => (List.mem_filter.1 h).1⟩
theorem fm_no (hx : rl[n]? = some e) (h : e.l = []) : ((rl.map PsA.l).take (n + 1)).filterMap neO = ((rl.map PsA.l).take n).filterMap neO := by
  rw [take_one (by rw [List.getElem?_map, hx]; rfl : (rl.map PsA.l)[n]? = some e.l), List.filterMap_append, h]
  simp [neO]
theorem fm_yes (hx : rl[n]? = some e) (h : e.l ≠ []) : ((rl.map PsA.l).take (n + 1)).filterMap neO = ((rl.map PsA.l).take n).filterMap neO ++ [entO e.l] := by
  rw [take_one (by rw [List.getElem?_map, hx]; rfl : (rl.map PsA.l)[n]? = some e.l), List.filterMap_append]
  simp [ne_some h]
theorem raw_end (hR : rl.map PsA.l = (List.range (gs.length + 1)).map (rowP gs zs)) (hj : rl.length ≤ j) : singZ gs zs ++ ((rl.map PsA.l).take j).filterMap neO = rawV gs zs := by
  rw [List.take_of_length_le (by simpa using hj), hR]; rfl
theorem raw_U {a : En} (hz : ∀ p ∈ zs, p.U) (ha : a ∈ rawV gs zs) : a.t.U ∧ 0 ≤ a.ord ∧ a.ord < 18446744073709551616 := by
  obtain ⟨F, hF, hs, rfl, _⟩ := raw_in ha
  exact ⟨one_t (P := Fq.U) hF fun p hp => (hz p (hs p hp)).r.t, one_o (P := fun o => 0 ≤ o) hF fun p hp => (hz p (hs p hp)).w.o0, one_o (P := fun o => o < 18446744073709551616) hF fun p hp => (hz p (hs p hp)).w.o1⟩
theorem pairs_U (h1 : ∀ r ∈ ts, r.U) (h2 : ∀ x ∈ ws, x.U) : ∀ p ∈ pairsV ts ws, p.U := fun p hp => ⟨h1 _ (pairs_mem hp).1, h2 _ (pairs_mem hp).2⟩
theorem raw_Us {el fl : List EnA} (hp : fl.Perm el) (he : el.map EnA.val = rawV gs zs) (hz : ∀ p ∈ zs, p.U) : ∀ x ∈ fl, x.U := fun x hx => by
  have := raw_U (gs := gs) hz (by rw [← he]; exact List.mem_map_of_mem (hp.mem_iff.1 hx))
  exact ⟨this.1, this.2.1, this.2.2⟩
end
end Go.Proofs.Ytoljahfofkmdaaa
