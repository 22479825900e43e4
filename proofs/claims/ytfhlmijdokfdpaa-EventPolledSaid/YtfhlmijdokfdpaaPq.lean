/- event.Due. -/
import Derived.Test.YtfhlmijdokfdpaaPp
import Derived.Test.YtfhlmijdokfdpaaEk
namespace Go.Proofs.Ytfhlmijdokfdpaa
open Go Go.RowKit

set_option maxRecDepth 100000 in
theorem edue_d (p : Option Addr) (n cap : Nat) (l : List Port) (own : Int) (w : World)
    (hsl : Sv w p l) (hn : n = l.length) (hb : n ≤ 1000)
    : Calls Try.prog 22 #[.agg #[.slice p n cap], .int .i64 own] w fun e w' => ∃ q m capq Y, e = .returned (.slice q m capq) ∧ SlO 3 Y q m capq (edueV l own) ∧ Below w.heap.size w w' ∧ Hs w Y w' := by
  refine enter (Hs.start w) Try.func22 rfl Try.ntmps22 rfl ?_
  refine at_seq ?_
  refine am [] [] (fun γ1 => [(2, .pointer (some ⟨γ1 0, 0, none⟩)), (3, .pointer (some ⟨γ1 1, 0, none⟩))]) (fun γ1 L => bx (γ1 1) (#[.int .i64 own]) 3 :: bx (γ1 0) (#[.slice p n cap]) 24 :: L) (fun γ1 => []) (fun _ => by kernel_rfl) (fun γ1 => al0) (fun γ1 => ?_)
  refine done_seq ?_
  refine at_seq ?_
  refine at_seq ?_
  refine at_ops ?_
  refine oq 1 [(0, .go (owns 1 0 1))] [2, 3] [(5, .agg #[.slice p n cap])] ([]) (fun _ => by kernel_rfl) al0 ?_
  rcases q3 : rightB l with _ | _
  ·
    refine ops_callD (.int .i64 260) (by kernel_rfl) (by kernel_rfl) (by kernel_rfl) (fun args w => Try.call16 args w) (fun w hw => by have := check_d p n cap l w (hsl.kept hw.below) hn hb; rw [q3] at this; exact this) ?_
    refine oq 1 [] [2, 3] [(7, .bool true)] ([]) (fun _ => by kernel_rfl) al0 ?_
    refine ops_nil ?_
    refine done_seq ?_
    refine at_true (by kernel_rfl) ?_
    refine at_seq ?_
    refine aq [] [] [(4, .slice none 0 0)] ([]) (fun _ => by kernel_rfl) al0 ?_
    refine done_seq ?_
    refine at_return ([]) (.slice none 0 0) [] (by kernel_rfl) (by kernel_rfl) al0 ?_
    exact fun w' hw => by rw [edueV_bad q3]; exact ⟨none, 0, 0, [], rfl, SlO.nil, hw.below, hw.sub (List.nil_sublist _)⟩
  ·
    refine ops_callD (.int .i64 0) (by kernel_rfl) (by kernel_rfl) (by kernel_rfl) (fun args w => Try.call16 args w) (fun w hw => by have := check_d p n cap l w (hsl.kept hw.below) hn hb; rw [q3] at this; exact this) ?_
    refine oq 1 [] [2, 3] [(7, .bool false)] ([]) (fun _ => by kernel_rfl) al0 ?_
    refine ops_nil ?_
    refine done_seq ?_
    refine at_false (by kernel_rfl) ?_
    refine at_skip ?_
    refine done_seq ?_
    refine at_seq ?_
    refine at_ops ?_
    refine oq 2 [(0, .go (owns 1 0 1))] [] [(8, .agg #[.slice p n cap]), (9, .func (.func 38) #[] #[.pointer (some ⟨γ1 1, 0, none⟩)])] ([]) (fun _ => by kernel_rfl) al0 ?_
    refine ops_inline (g := 37) (args := #[.agg #[.slice p n cap], .func (.func 38) #[] #[.pointer (some ⟨γ1 1, 0, none⟩)]]) (by kernel_rfl) (by kernel_rfl) (by kernel_rfl) (fun args w => Try.call37 args w) Try.func37 rfl Try.ntmps37 rfl ?_
    refine at_seq ?_
    refine am [] [] (fun γ8 => [(2, .pointer (some ⟨γ8 0, 0, none⟩)), (3, .pointer (some ⟨γ8 1, 0, none⟩))]) (fun γ8 L => bx (γ8 1) (#[.func (.func 38) #[] #[.pointer (some ⟨γ1 1, 0, none⟩)]]) 73 :: bx (γ8 0) (#[.slice p n cap]) 24 :: L) (fun γ8 => []) (fun _ => by kernel_rfl) (fun γ8 => al0) (fun γ8 => ?_)
    refine done_seq ?_
    refine at_seq ?_
    refine aq [] [] [(4, .func (.func 60) #[] #[.pointer (some ⟨γ8 0, 0, none⟩), .pointer (some ⟨γ8 1, 0, none⟩)])] ([]) (fun _ => by kernel_rfl) al0 ?_
    refine done_seq ?_
    refine at_back ([]) (.func (.func 60) #[] #[.pointer (some ⟨γ8 0, 0, none⟩), .pointer (some ⟨γ8 1, 0, none⟩)]) [] (by kernel_rfl) (by kernel_rfl) al0 ?_
    refine ops_inlineM (g := 36) (args := #[.func (.func 60) #[] #[.pointer (some ⟨γ8 0, 0, none⟩), .pointer (some ⟨γ8 1, 0, none⟩)]]) (by kernel_rfl) (by kernel_rfl) (by kernel_rfl) (fun args w => Try.call36 args w) Try.func36 rfl Try.ntmps36 rfl ?_
    refine at_seq ?_
    refine aq [] [0] [] ([]) (fun _ => by kernel_rfl) al0 ?_
    refine done_seq ?_
    refine at_seq ?_
    refine am [] [0] (fun γ12 => [(3, .pointer (some ⟨γ12 0, 0, none⟩))]) (fun γ12 L => bx (γ12 0) (#[.slice none 0 0]) 28 :: L) (fun γ12 => []) (fun _ => by kernel_rfl) (fun γ12 => al0) (fun γ12 => ?_)
    refine done_seq ?_
    refine at_seq ?_
    refine at_seq ?_
    refine aq [] [3] [(5, .func (.func 60) #[] #[.pointer (some ⟨γ8 0, 0, none⟩), .pointer (some ⟨γ8 1, 0, none⟩)])] ([]) (fun _ => by kernel_rfl) al0 ?_
    refine done_seq ?_
    refine at_block ?_
    refine at_range (gf := 60) (lb := #[.pointer (some ⟨γ8 0, 0, none⟩), .pointer (some ⟨γ8 1, 0, none⟩)]) (by kernel_rfl) (fun args w => Try.call60 args w) Try.func60 rfl Try.ntmps60 (by kernel_rfl) (fun γ14 r14 hr14 => ?_)
    refine at_seq ?_
    refine aq [(1, .go (owns 4 0 1))] [0, 2] [(7, .slice p n cap), (8, .int .i64 ((n : Nat))), (9, .int .i64 0)] ([]) (fun _ => by kernel_rfl) al0 ?_
    refine done_seq ?_
    refine at_block ?_
    refine at_loop (α := Nat × List Ob × Option Addr × Nat × Nat) [0, 2, 7, 8, 9] (fun ⟨j, Yo, po, m, co⟩ => [(0, .func (.yield (γ14 1)) #[] #[]), (2, .pointer (some ⟨γ8 1, 0, none⟩)), (7, .slice p n cap), (8, .int .i64 ((n : Nat))), (9, .int .i64 ((j : Nat)))]) (fun ⟨j, Yo, po, m, co⟩ => (γ14 1, .loop r14) :: (γ14 0, .deferred (some [])) :: bx (γ12 0) (#[.slice po m co]) 28 :: bx (γ8 1) (#[.func (.func 38) #[] #[.pointer (some ⟨γ1 1, 0, none⟩)]]) 73 :: bx (γ8 0) (#[.slice p n cap]) 24 :: bx (γ1 1) (#[.int .i64 own]) 3 :: bx (γ1 0) (#[.slice p n cap]) 24 :: (Yo ++ [])) (fun ⟨j, Yo, po, m, co⟩ => j ≤ n ∧ m ≤ j ∧ SlO 3 Yo po m co (suchL (isDue own) (l.take j))) (fun ⟨j, Yo, po, m, co⟩ => n - j) (0, [], none, 0, 0) (by kernel_rfl) rfl ⟨Nat.zero_le _, Nat.le_refl _, by rw [List.take_zero]; exact SlO.nil⟩ ?_
    rintro ⟨j, Yo, po, m, co⟩
    rintro ⟨hj, hm, hO⟩
    refine at_seq ?_
    by_cases q17 : ((j : Nat) : Int) < ((n : Nat) : Int)
    ·
      refine aq [(0, .yes)] [0, 2, 7, 8, 9] [(10, .bool true)] ([((j : Nat) : Int) < ((n : Nat) : Int)]) (fun _ => by kernel_rfl) (al1 q17) ?_
      refine done_seq ?_
      refine at_seq ?_
      refine at_true (by kernel_rfl) ?_
      refine at_skip ?_
      refine done_seq ?_
      refine at_seq ?_
      refine at_block ?_
      refine at_seq ?_
      obtain ⟨b20, o20, rfl⟩ := hsl.pos (i := j) (by omega)
      obtain ⟨x22, hx22⟩ := get_some (l := l) (m := j) (by omega)
      refine am [(0, .at b20 o20 j), (1, .go (outs b20 (o20 + j * 5) [.int .i64 x22.num, .int .i64 x22.vcpu, .int .i64 x22.peer, .bool x22.pending, .bool x22.masked])), (3, .go (owns 0 0 5))] [0, 2, 7, 8, 9] (fun γ23 => [(5, .pointer (some ⟨γ23 0, 0, none⟩))]) (fun γ23 L => bx (γ23 0) (#[.int .i64 x22.num, .int .i64 x22.vcpu, .int .i64 x22.peer, .bool x22.pending, .bool x22.masked]) 40 :: L) (fun γ23 => [(some ⟨b20, o20, none⟩ : Option Addr) = some ⟨b20, o20, none⟩, ((j : Nat)) = ((j : Nat) : Int), j < n] ++ (cellsP w b20 (o20 + j * 5) [.int .i64 x22.num, .int .i64 x22.vcpu, .int .i64 x22.peer, .bool x22.pending, .bool x22.masked])) (fun _ => by kernel_rfl) (fun γ23 => (alA (al2 rfl (al2 rfl (al1 (by omega)))) (rd_pre (hsl.get hx22) _ rfl))) (fun γ23 => ?_)
      refine done_seq ?_
      refine at_seq ?_
      refine at_ops ?_
      refine oq 2 [(0, .go (owns 4 0 1)), (1, .go (owns 0 0 5))] [0, 2, 5, 7, 8, 9] [(13, .func (.func 38) #[] #[.pointer (some ⟨γ1 1, 0, none⟩)]), (14, .agg #[.int .i64 x22.num, .int .i64 x22.vcpu, .int .i64 x22.peer, .bool x22.pending, .bool x22.masked])] ([]) (fun _ => by kernel_rfl) al0 ?_
      refine ops_inline (g := 38) (args := #[.agg #[.int .i64 x22.num, .int .i64 x22.vcpu, .int .i64 x22.peer, .bool x22.pending, .bool x22.masked], .pointer (some ⟨γ1 1, 0, none⟩)]) (by kernel_rfl) (by kernel_rfl) (by kernel_rfl) (fun args w => Try.call38 args w) Try.func38 rfl Try.ntmps38 rfl ?_
      refine at_seq ?_
      refine am [] [1] (fun γ25 => [(2, .pointer (some ⟨γ25 0, 0, none⟩))]) (fun γ25 L => bx (γ25 0) (#[.int .i64 x22.num, .int .i64 x22.vcpu, .int .i64 x22.peer, .bool x22.pending, .bool x22.masked]) 40 :: L) (fun γ25 => []) (fun _ => by kernel_rfl) (fun γ25 => al0) (fun γ25 => ?_)
      refine done_seq ?_
      refine at_seq ?_
      refine at_ops ?_
      refine oq 1 [(0, .go (owns 0 0 5))] [1, 2] [(4, .agg #[.int .i64 x22.num, .int .i64 x22.vcpu, .int .i64 x22.peer, .bool x22.pending, .bool x22.masked])] ([]) (fun _ => by kernel_rfl) al0 ?_
      rcases q27 : (x22.pending && !x22.masked) with _ | _
      ·
        refine ops_callD (.bool false) (by kernel_rfl) (by kernel_rfl) (by kernel_rfl) (fun args w => Try.call39 args w) (fun w hw => by have := due_d (⟨x22.num, x22.vcpu, x22.peer, x22.pending, x22.masked⟩ : Port) w; rw [show dueB (⟨x22.num, x22.vcpu, x22.peer, x22.pending, x22.masked⟩ : Port) = false from q27] at this; exact this) ?_
        refine oq 7 [] [] [(3, .bool false)] ([]) (fun _ => by kernel_rfl) al0 ?_
        refine ops_nil ?_
        refine done_seq ?_
        refine at_back ([]) (.bool false) [] (by kernel_rfl) (by kernel_rfl) al0 ?_
        refine oq 7 [] [0, 2, 7, 8, 9] [(22, .bool false)] ([]) (fun _ => by kernel_rfl) al0 ?_
        refine ops_nil ?_
        refine done_seq ?_
        refine at_false (by kernel_rfl) ?_
        refine at_skip ?_
        refine done_block ?_
        refine done_seq ?_
        refine aq [(0, .fit)] [0, 2, 7, 8] [(9, .int .i64 ((j + 1 : Nat)))] ([Fit .i64 ((j + 1 : Nat))]) (fun _ => by kernel_rfl) (al1 (fit64 (by omega) (by omega))) ?_
        refine Done.drop (L' := (γ14 1, .loop r14) :: (γ14 0, .deferred (some [])) :: bx (γ12 0) (#[.slice po m co]) 28 :: bx (γ8 1) (#[.func (.func 38) #[] #[.pointer (some ⟨γ1 1, 0, none⟩)]]) 73 :: bx (γ8 0) (#[.slice (some ⟨b20, o20, none⟩) n cap]) 24 :: bx (γ1 1) (#[.int .i64 own]) 3 :: bx (γ1 0) (#[.slice (some ⟨b20, o20, none⟩) n cap]) 24 :: (Yo ++ [])) ?_ (List.Sublist.cons _ (List.Sublist.cons _ (List.Sublist.cons_cons _ (List.Sublist.cons_cons _ (List.Sublist.cons_cons _ (List.Sublist.cons_cons _ (List.Sublist.cons_cons _ (List.Sublist.cons_cons _ (List.Sublist.cons_cons _ (List.Sublist.refl _))))))))))
        exact done_round [0, 2, 7, 8, 9] (j + 1, Yo, po, m, co) (by kernel_rfl) rfl ⟨by omega, by omega, by rw [← such_no hx22 (isDue_no q27)]; exact hO⟩ (by first | omega | (simp only; omega))
      ·
        refine ops_callD (.bool true) (by kernel_rfl) (by kernel_rfl) (by kernel_rfl) (fun args w => Try.call39 args w) (fun w hw => by have := due_d (⟨x22.num, x22.vcpu, x22.peer, x22.pending, x22.masked⟩ : Port) w; rw [show dueB (⟨x22.num, x22.vcpu, x22.peer, x22.pending, x22.masked⟩ : Port) = true from q27] at this; exact this) ?_
        by_cases q32 : (x22.vcpu : Int) = (own : Int)
        ·
          refine oq 7 [(4, .go (owns 0 1 1)), (5, .go (owns 7 0 1)), (6, .yes)] [] [(3, .bool true)] ([(x22.vcpu : Int) = (own : Int)]) (fun _ => by kernel_rfl) (al1 q32) ?_
          refine ops_nil ?_
          refine done_seq ?_
          refine at_back ([]) (.bool true) [] (by kernel_rfl) (by kernel_rfl) al0 ?_
          refine oq 4 [(6, .go (owns 1 0 1))] [0, 2, 7, 8, 9] [(16, .bool true), (17, .func (.yield (γ14 1)) #[] #[]), (19, .int .i64 x22.num)] ([]) (fun _ => by kernel_rfl) al0 ?_
          refine ops_yield (args := #[.int .i64 x22.num]) (by kernel_rfl) (by kernel_rfl) (by kernel_rfl) 2 rfl hr14 rfl (by kernel_rfl) ?_
          refine aq [] [3] [(4, .int .i64 x22.num)] ([]) (fun _ => by kernel_rfl) al0 ?_
          refine done_asg 2 rfl ?_
          refine at_block ?_
          refine at_ops ?_
          refine om 3 [(0, .go (owns 4 0 1))] [3] (fun γ36 => [(7, .slice po m co), (9, .slice (some ⟨γ36 0, 0, none⟩) 1 1)]) (fun γ36 L => bx (γ36 0) (#[.int .i64 x22.num]) 3 :: L) (fun γ36 => []) (fun _ => by kernel_rfl) (fun γ36 => al0) (fun γ36 => ?_)
          refine ops_append (α := Int) [bx (γ36 0) (#[.int .i64 x22.num]) 3, bx (γ25 0) (#[.int .i64 x22.num, .int .i64 x22.vcpu, .int .i64 x22.peer, .bool x22.pending, .bool x22.masked]) 40, bx (γ23 0) (#[.int .i64 x22.num, .int .i64 x22.vcpu, .int .i64 x22.peer, .bool x22.pending, .bool x22.masked]) 40, (γ14 1, .loop { r14 with state := .busy }), (γ14 0, .deferred (some [])), bx (γ12 0) (#[.slice po m co]) 28, bx (γ8 1) (#[.func (.func 38) #[] #[.pointer (some ⟨γ1 1, 0, none⟩)]]) 73, bx (γ8 0) (#[.slice (some ⟨b20, o20, none⟩) n cap]) 24, bx (γ1 1) (#[.int .i64 own]) 3, bx (γ1 0) (#[.slice (some ⟨b20, o20, none⟩) n cap]) 24] Yo ([]) (.refl _) rfl (by kernel_rfl) (by kernel_rfl) (p := po) (n := m) (cap := co) (m := 1) (yv := .slice (some ⟨γ36 0, 0, none⟩) 1 1) (by kernel_rfl) (by kernel_rfl) (T := 3) (by_ := 8) (by kernel_rfl) ((suchL (isDue own) (l.take j))) ([x22.num]) hO (fun w hw => src_svn Try.underlying28 (sv_row (hw.row 0 rfl) (by rfl)) (by rfl)) (by rfl) (by have hmx : maxLen = 9223372036854775807 := rfl; omega) (by have hmx : maxLen = 9223372036854775807 := rfl; omega) (fun Y37 p37 cap37 hO37 => ?_)
          refine om 1 [(4, .go (owns 5 0 1))] [] (fun _ => []) (fun _ L => (L.set 5 (bx (γ12 0) (#[.slice p37 (m + 1) cap37]) 28))) (fun _ => []) (fun _ => by kernel_rfl) (fun _ => al0) (fun _ => ?_)
          refine ops_nil ?_
          refine done_block ?_
          refine done_rnd 3 rfl ?_
          refine oq 2 [] [0, 2, 7, 8, 9] [(22, .bool false)] ([]) (fun _ => by kernel_rfl) al0 ?_
          refine ops_nil ?_
          refine done_seq ?_
          refine at_false (by kernel_rfl) ?_
          refine at_skip ?_
          refine done_block ?_
          refine done_seq ?_
          refine aq [(0, .fit)] [0, 2, 7, 8] [(9, .int .i64 ((j + 1 : Nat)))] ([Fit .i64 ((j + 1 : Nat))]) (fun _ => by kernel_rfl) (al1 (fit64 (by omega) (by omega))) ?_
          refine Done.drop (L' := (γ14 1, .loop r14) :: (γ14 0, .deferred (some [])) :: bx (γ12 0) (#[.slice p37 (m + 1) cap37]) 28 :: bx (γ8 1) (#[.func (.func 38) #[] #[.pointer (some ⟨γ1 1, 0, none⟩)]]) 73 :: bx (γ8 0) (#[.slice (some ⟨b20, o20, none⟩) n cap]) 24 :: bx (γ1 1) (#[.int .i64 own]) 3 :: bx (γ1 0) (#[.slice (some ⟨b20, o20, none⟩) n cap]) 24 :: (Y37 ++ [])) ?_ (List.Sublist.cons _ (List.Sublist.cons _ (List.Sublist.cons _ (List.Sublist.cons_cons _ (List.Sublist.cons_cons _ (List.Sublist.cons_cons _ (List.Sublist.cons_cons _ (List.Sublist.cons_cons _ (List.Sublist.cons_cons _ (List.Sublist.cons_cons _ (List.Sublist.refl _)))))))))))
          exact done_round [0, 2, 7, 8, 9] (j + 1, Y37, p37, m + 1, cap37) (by kernel_rfl) rfl ⟨by omega, by omega, by rw [← such_yes hx22 (isDue_yes q27 q32)]; exact hO37⟩ (by first | omega | (simp only; omega))
        ·
          refine oq 7 [(4, .go (owns 0 1 1)), (5, .go (owns 7 0 1)), (6, .no)] [] [(3, .bool false)] ([¬ ((x22.vcpu : Int) = (own : Int))]) (fun _ => by kernel_rfl) (al1 q32) ?_
          refine ops_nil ?_
          refine done_seq ?_
          refine at_back ([]) (.bool false) [] (by kernel_rfl) (by kernel_rfl) al0 ?_
          refine oq 7 [] [0, 2, 7, 8, 9] [(22, .bool false)] ([]) (fun _ => by kernel_rfl) al0 ?_
          refine ops_nil ?_
          refine done_seq ?_
          refine at_false (by kernel_rfl) ?_
          refine at_skip ?_
          refine done_block ?_
          refine done_seq ?_
          refine aq [(0, .fit)] [0, 2, 7, 8] [(9, .int .i64 ((j + 1 : Nat)))] ([Fit .i64 ((j + 1 : Nat))]) (fun _ => by kernel_rfl) (al1 (fit64 (by omega) (by omega))) ?_
          refine Done.drop (L' := (γ14 1, .loop r14) :: (γ14 0, .deferred (some [])) :: bx (γ12 0) (#[.slice po m co]) 28 :: bx (γ8 1) (#[.func (.func 38) #[] #[.pointer (some ⟨γ1 1, 0, none⟩)]]) 73 :: bx (γ8 0) (#[.slice (some ⟨b20, o20, none⟩) n cap]) 24 :: bx (γ1 1) (#[.int .i64 own]) 3 :: bx (γ1 0) (#[.slice (some ⟨b20, o20, none⟩) n cap]) 24 :: (Yo ++ [])) ?_ (List.Sublist.cons _ (List.Sublist.cons _ (List.Sublist.cons_cons _ (List.Sublist.cons_cons _ (List.Sublist.cons_cons _ (List.Sublist.cons_cons _ (List.Sublist.cons_cons _ (List.Sublist.cons_cons _ (List.Sublist.cons_cons _ (List.Sublist.refl _))))))))))
          exact done_round [0, 2, 7, 8, 9] (j + 1, Yo, po, m, co) (by kernel_rfl) rfl ⟨by omega, by omega, by rw [← such_no hx22 (isDue_not q32)]; exact hO⟩ (by first | omega | (simp only; omega))
    ·
      refine aq [(0, .no)] [0, 2, 7, 8, 9] [(10, .bool false)] ([¬ (((j : Nat) : Int) < ((n : Nat) : Int))]) (fun _ => by kernel_rfl) (al1 q17) ?_
      refine done_seq ?_
      refine at_seq ?_
      refine at_false (by kernel_rfl) ?_
      refine at_leave _ (by rfl) ?_
      refine done_back (by rfl) ?_
      refine ⟨0, rfl, ?_⟩
      refine done_block ?_
      refine done_seq ?_
      refine at_seq ?_
      refine aq [(0, .go (owns 1 0 1))] [] [(2, .slice po m co)] ([]) (fun _ => by kernel_rfl) al0 ?_
      refine done_seq ?_
      refine at_backM 0 rfl ([]) (.slice po m co) [] (by kernel_rfl) (by kernel_rfl) al0 ?_
      refine oq 1 [] [] [(4, .slice po m co)] ([]) (fun _ => by kernel_rfl) al0 ?_
      refine ops_nil ?_
      refine done_seq ?_
      refine at_return ([]) (.slice po m co) [] (by kernel_rfl) (by kernel_rfl) al0 ?_
      exact fun w' hw => by rw [edueV_ok q3, ← such_all (j := j) (by omega)]; exact ⟨_, _, _, _, rfl, hO, hw.below, ((hw.tailN 5).sub (List.sublist_append_left Yo ([])))⟩
end Go.Proofs.Ytfhlmijdokfdpaa
