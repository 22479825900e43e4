/- The layer's readers. -/
import Derived.Test.YtfhlmijdokfdpaaPe
namespace Go.Proofs.Ytfhlmijdokfdpaa
open Go Go.RowKit

set_option maxRecDepth 100000 in
theorem get_d (p : Option Addr) (n cap : Nat) (l : List Port) (k : Int) (w : World)
    (hsl : Sv w p l) (hn : n = l.length) (hb : n ≤ 1000)
    : Calls Try.prog 18 #[.agg #[.slice p n cap], .int .i64 k] w fun e w' => e = .returned (optV (eGet l k)) ∧ Below w.heap.size w w' := by
  refine enter (Hs.start w) Try.func18 rfl Try.ntmps18 rfl ?_
  refine at_seq ?_
  refine am [] [1] (fun γ1 => [(2, .pointer (some ⟨γ1 0, 0, none⟩)), (4, .pointer (some ⟨γ1 1, 0, none⟩))]) (fun γ1 L => bx (γ1 1) (#[.int .i64 0, .int .i64 0, .int .i64 0, .bool false, .bool false]) 40 :: bx (γ1 0) (#[.slice p n cap]) 24 :: L) (fun γ1 => []) (fun _ => by kernel_rfl) (fun γ1 => al0) (fun γ1 => ?_)
  refine done_seq ?_
  refine at_seq ?_
  refine at_seq ?_
  refine at_ops ?_
  refine oq 1 [(0, .go (owns 1 0 1))] [1, 2, 4] [(7, .agg #[.slice p n cap])] ([]) (fun _ => by kernel_rfl) al0 ?_
  rcases q3 : rightB l with _ | _
  ·
    refine ops_callD (.int .i64 260) (by kernel_rfl) (by kernel_rfl) (by kernel_rfl) (fun args w => Try.call16 args w) (fun w hw => by have := check_d p n cap l w (hsl.kept hw.below) hn hb; rw [q3] at this; exact this) ?_
    refine oq 1 [] [1, 2, 4] [(9, .bool true)] ([]) (fun _ => by kernel_rfl) al0 ?_
    refine ops_nil ?_
    refine done_seq ?_
    refine at_true (by kernel_rfl) ?_
    refine at_seq ?_
    refine aq [(1, .go (owns 0 0 5))] [4] [(5, .bool false)] ([]) (fun _ => by kernel_rfl) al0 ?_
    refine done_seq ?_
    refine at_return (owns 0 0 5) (.tuple #[.agg #[.int .i64 0, .int .i64 0, .int .i64 0, .bool false, .bool false], .bool false]) [] (by kernel_rfl) (by kernel_rfl) al0 ?_
    exact fun w' hw => ⟨by simp [eGet, optV, q3], hw.below⟩
  ·
    refine ops_callD (.int .i64 0) (by kernel_rfl) (by kernel_rfl) (by kernel_rfl) (fun args w => Try.call16 args w) (fun w hw => by have := check_d p n cap l w (hsl.kept hw.below) hn hb; rw [q3] at this; exact this) ?_
    refine oq 1 [] [1, 2, 4] [(9, .bool false)] ([]) (fun _ => by kernel_rfl) al0 ?_
    refine ops_nil ?_
    refine done_seq ?_
    refine at_false (by kernel_rfl) ?_
    refine at_skip ?_
    refine done_seq ?_
    refine at_seq ?_
    refine at_ops ?_
    refine oq 3 [(1, .go (owns 1 0 1))] [4] [(12, .slice p n cap), (13, .int .i64 k)] ([]) (fun _ => by kernel_rfl) al0 ?_
    rcases hg : getB l k with _ | y
    ·
      refine ops_callD (.pointer none) (by kernel_rfl) (by kernel_rfl) (by kernel_rfl) (fun args w => Try.call32 args w) (fun w hw => by have := port_d p n cap l k w (hsl.kept hw.below) hn hb (ris_all (right_ris q3)) (ris_asc l 0 (right_ris q3)); rw [portV_none hg] at this; exact this) ?_
      refine oq 1 [] [4] [(6, .pointer none)] ([]) (fun _ => by kernel_rfl) al0 ?_
      refine ops_nil ?_
      refine done_seq ?_
      refine at_seq ?_
      refine at_seq ?_
      refine aq [] [4, 6] [(16, .bool true)] ([]) (fun _ => by kernel_rfl) al0 ?_
      refine done_seq ?_
      refine at_true (by kernel_rfl) ?_
      refine at_seq ?_
      refine aq [(1, .go (owns 0 0 5))] [4] [(5, .bool false)] ([]) (fun _ => by kernel_rfl) al0 ?_
      refine done_seq ?_
      refine at_return (owns 0 0 5) (.tuple #[.agg #[.int .i64 0, .int .i64 0, .int .i64 0, .bool false, .bool false], .bool false]) [] (by kernel_rfl) (by kernel_rfl) al0 ?_
      exact fun w' hw => ⟨by simp [eGet, optV, q3, hg], hw.below⟩
    ·
      obtain ⟨hy1, hy2⟩ := get_pos (ris_asc l 0 (right_ris q3)) hg
      obtain ⟨b11, o11, rfl⟩ := hsl.pos (i := posB l k) hy2
      refine ops_callD (.pointer (some ⟨b11, o11 + (posB l k) * 5, none⟩)) (by kernel_rfl) (by kernel_rfl) (by kernel_rfl) (fun args w => Try.call32 args w) (fun w hw => by have := port_d (some ⟨b11, o11, none⟩) n cap l k w (hsl.kept hw.below) hn hb (ris_all (right_ris q3)) (ris_asc l 0 (right_ris q3)); rw [portV_some hg] at this; exact this) ?_
      refine oq 1 [] [4] [(6, .pointer (some ⟨b11, o11 + (posB l k) * 5, none⟩))] ([]) (fun _ => by kernel_rfl) al0 ?_
      refine ops_nil ?_
      refine done_seq ?_
      refine at_seq ?_
      refine at_seq ?_
      refine aq [] [4, 6] [(16, .bool false)] ([]) (fun _ => by kernel_rfl) al0 ?_
      refine done_seq ?_
      refine at_false (by kernel_rfl) ?_
      refine at_skip ?_
      refine done_seq ?_
      refine at_seq ?_
      refine am [(2, .go (outs b11 (o11 + (posB l k) * 5) [.int .i64 y.num, .int .i64 y.vcpu, .int .i64 y.peer, .bool y.pending, .bool y.masked])), (3, .go (owns 0 0 5))] [4] (fun _ => [(5, .bool true)]) (fun _ L => (L.set 0 (bx (γ1 1) (#[.int .i64 y.num, .int .i64 y.vcpu, .int .i64 y.peer, .bool y.pending, .bool y.masked]) 40))) (fun _ => cellsP w b11 (o11 + (posB l k) * 5) [.int .i64 y.num, .int .i64 y.vcpu, .int .i64 y.peer, .bool y.pending, .bool y.masked]) (fun _ => by kernel_rfl) (fun _ => (rd_pre (hsl.get hy1) _ rfl)) (fun _ => ?_)
      refine done_seq ?_
      refine at_return (owns 0 0 5) (.tuple #[.agg #[.int .i64 y.num, .int .i64 y.vcpu, .int .i64 y.peer, .bool y.pending, .bool y.masked], .bool true]) [] (by kernel_rfl) (by kernel_rfl) al0 ?_
      exact fun w' hw => ⟨by simp [eGet, optV, q3, hg], hw.below⟩

set_option maxRecDepth 100000 in
theorem poll_d (p : Option Addr) (n cap : Nat) (l : List Port) (own : Int) (pn : Option Addr) (m capn : Nat) (ns : List Int) (w : World)
    (hsl : Sv w p l) (hn : n = l.length) (hb : n ≤ 1000)
    (hns : Sv w pn ns) (hm : m = ns.length) (hmb : m ≤ 1000)
    : Calls Try.prog 12 #[.agg #[.slice p n cap], .int .i64 own, .slice pn m capn] w fun e w' => e = .returned (.tuple #[.bool (pollV l own ns).1, .int .i64 (pollV l own ns).2]) ∧ Below w.heap.size w w' := by
  refine enter (Hs.start w) Try.func12 rfl Try.ntmps12 rfl ?_
  refine at_seq ?_
  refine am [] [1, 2] (fun γ1 => [(3, .pointer (some ⟨γ1 0, 0, none⟩))]) (fun γ1 L => bx (γ1 0) (#[.slice p n cap]) 24 :: L) (fun γ1 => []) (fun _ => by kernel_rfl) (fun γ1 => al0) (fun γ1 => ?_)
  refine done_seq ?_
  refine at_seq ?_
  refine at_seq ?_
  refine at_ops ?_
  refine oq 1 [(0, .go (owns 0 0 1))] [1, 2, 3] [(14, .agg #[.slice p n cap])] ([]) (fun _ => by kernel_rfl) al0 ?_
  rcases q3 : rightB l with _ | _
  ·
    refine ops_callD (.int .i64 260) (by kernel_rfl) (by kernel_rfl) (by kernel_rfl) (fun args w => Try.call16 args w) (fun w hw => by have := check_d p n cap l w (hsl.kept hw.below) hn hb; rw [q3] at this; exact this) ?_
    refine oq 1 [] [1, 2, 3] [(8, .int .i64 260)] ([]) (fun _ => by kernel_rfl) al0 ?_
    refine ops_nil ?_
    refine done_seq ?_
    refine at_seq ?_
    refine aq [] [1, 2, 3, 8] [(17, .bool true)] ([]) (fun _ => by kernel_rfl) al0 ?_
    refine done_seq ?_
    refine at_true (by kernel_rfl) ?_
    refine at_seq ?_
    refine aq [] [] [(6, .bool false), (7, .int .i64 260)] ([]) (fun _ => by kernel_rfl) al0 ?_
    refine done_seq ?_
    refine at_return ([]) (.tuple #[.bool false, .int .i64 260]) [] (by kernel_rfl) (by kernel_rfl) al0 ?_
    exact fun w' hw => ⟨by simp [pollV, q3], hw.below⟩
  ·
    refine ops_callD (.int .i64 0) (by kernel_rfl) (by kernel_rfl) (by kernel_rfl) (fun args w => Try.call16 args w) (fun w hw => by have := check_d p n cap l w (hsl.kept hw.below) hn hb; rw [q3] at this; exact this) ?_
    refine oq 1 [] [1, 2, 3] [(8, .int .i64 0)] ([]) (fun _ => by kernel_rfl) al0 ?_
    refine ops_nil ?_
    refine done_seq ?_
    refine at_seq ?_
    refine aq [] [1, 2, 3, 8] [(17, .bool false)] ([]) (fun _ => by kernel_rfl) al0 ?_
    refine done_seq ?_
    refine at_false (by kernel_rfl) ?_
    refine at_skip ?_
    refine done_seq ?_
    refine at_seq ?_
    refine at_seq ?_
    refine at_ops ?_
    refine oq 1 [] [1, 2, 3] [(19, .int .i64 own)] ([]) (fun _ => by kernel_rfl) al0 ?_
    rcases q10 : vcpuB own with _ | _
    ·
      refine ops_callD (.bool false) (by kernel_rfl) (by kernel_rfl) (by kernel_rfl) (fun args w => Try.call31 args w) (fun w hw => by have := vcpu_d own w; rw [q10] at this; exact this) ?_
      refine oq 11 [] [1, 2, 3] [(31, .bool true)] ([]) (fun _ => by kernel_rfl) al0 ?_
      refine ops_nil ?_
      refine done_seq ?_
      refine at_true (by kernel_rfl) ?_
      refine at_seq ?_
      refine aq [] [] [(6, .bool false), (7, .int .i64 2)] ([]) (fun _ => by kernel_rfl) al0 ?_
      refine done_seq ?_
      refine at_return ([]) (.tuple #[.bool false, .int .i64 2]) [] (by kernel_rfl) (by kernel_rfl) al0 ?_
      exact fun w' hw => ⟨by rw [pollV_no (by assumption) (by rintro ⟨a, b, c⟩; first | omega | simp_all)], hw.below⟩
    ·
      refine ops_callD (.bool true) (by kernel_rfl) (by kernel_rfl) (by kernel_rfl) (fun args w => Try.call31 args w) (fun w hw => by have := vcpu_d own w; rw [q10] at this; exact this) ?_
      by_cases q14 : ((m : Nat) : Int) < (1 : Int)
      ·
        refine oq 11 [(6, .yes)] [1, 2, 3] [(31, .bool true)] ([((m : Nat) : Int) < (1 : Int)]) (fun _ => by kernel_rfl) (al1 q14) ?_
        refine ops_nil ?_
        refine done_seq ?_
        refine at_true (by kernel_rfl) ?_
        refine at_seq ?_
        refine aq [] [] [(6, .bool false), (7, .int .i64 2)] ([]) (fun _ => by kernel_rfl) al0 ?_
        refine done_seq ?_
        refine at_return ([]) (.tuple #[.bool false, .int .i64 2]) [] (by kernel_rfl) (by kernel_rfl) al0 ?_
        exact fun w' hw => ⟨by rw [pollV_no (by assumption) (by rintro ⟨a, b, c⟩; first | omega | simp_all)], hw.below⟩
      ·
        by_cases q18 : ((m : Nat) : Int) > (32 : Int)
        ·
          refine oq 11 [(6, .no), (11, .yes)] [1, 2, 3] [(31, .bool true)] ([¬ (((m : Nat) : Int) < (1 : Int))] ++ ([((m : Nat) : Int) > (32 : Int)])) (fun _ => by kernel_rfl) (alA (al1 q14) (al1 q18)) ?_
          refine ops_nil ?_
          refine done_seq ?_
          refine at_true (by kernel_rfl) ?_
          refine at_seq ?_
          refine aq [] [] [(6, .bool false), (7, .int .i64 2)] ([]) (fun _ => by kernel_rfl) al0 ?_
          refine done_seq ?_
          refine at_return ([]) (.tuple #[.bool false, .int .i64 2]) [] (by kernel_rfl) (by kernel_rfl) al0 ?_
          exact fun w' hw => ⟨by rw [pollV_no (by assumption) (by rintro ⟨a, b, c⟩; first | omega | simp_all)], hw.below⟩
        ·
          refine oq 11 [(6, .no), (11, .no)] [1, 2, 3] [(31, .bool false)] ([¬ (((m : Nat) : Int) < (1 : Int))] ++ ([¬ (((m : Nat) : Int) > (32 : Int))])) (fun _ => by kernel_rfl) (alA (al1 q14) (al1 q18)) ?_
          refine ops_nil ?_
          refine done_seq ?_
          refine at_false (by kernel_rfl) ?_
          refine at_skip ?_
          refine done_seq ?_
          refine at_seq ?_
          refine aq [] [1, 2, 3] [(9, .bool false), (10, .int .i64 0)] ([]) (fun _ => by kernel_rfl) al0 ?_
          refine done_seq ?_
          refine at_seq ?_
          refine at_seq ?_
          refine aq [] [1, 3, 9, 10] [(32, .slice pn m capn), (33, .int .i64 ((m : Nat))), (34, .int .i64 0)] ([]) (fun _ => by kernel_rfl) al0 ?_
          refine done_seq ?_
          refine at_block ?_
          refine at_loop (α := Nat × Bool × Int) [1, 3, 9, 10, 32, 33, 34] (fun ⟨j, pd, e⟩ => [(1, .int .i64 own), (3, .pointer (some ⟨γ1 0, 0, none⟩)), (9, .bool pd), (10, .int .i64 e), (32, .slice pn m capn), (33, .int .i64 ((m : Nat))), (34, .int .i64 ((j : Nat)))]) (fun ⟨j, pd, e⟩ => [bx (γ1 0) (#[.slice p n cap]) 24]) (fun ⟨j, pd, e⟩ => j ≤ m ∧ pollGo l own (ns.drop j) pd e = pollGo l own ns false 0) (fun ⟨j, pd, e⟩ => m - j) (0, false, 0) (by kernel_rfl) rfl ⟨Nat.zero_le _, rfl⟩ ?_
          rintro ⟨j, pd, e⟩
          rintro ⟨hj, hI⟩
          refine at_seq ?_
          by_cases q25 : ((j : Nat) : Int) < ((m : Nat) : Int)
          ·
            refine aq [(0, .yes)] [1, 3, 9, 10, 32, 33, 34] [(35, .bool true)] ([((j : Nat) : Int) < ((m : Nat) : Int)]) (fun _ => by kernel_rfl) (al1 q25) ?_
            refine done_seq ?_
            refine at_seq ?_
            refine at_true (by kernel_rfl) ?_
            refine at_skip ?_
            refine done_seq ?_
            refine at_seq ?_
            refine at_block ?_
            refine at_seq ?_
            obtain ⟨b28, o28, rfl⟩ := hns.pos (i := j) (by omega)
            obtain ⟨x30, hx30⟩ := get_some (l := ns) (m := j) (by omega)
            refine aq [(0, .at b28 o28 j), (1, .go (outs b28 (o28 + j * 1) [.int .i64 x30]))] [1, 3, 9, 10, 32, 33, 34] [(12, .int .i64 x30)] ([(some ⟨b28, o28, none⟩ : Option Addr) = some ⟨b28, o28, none⟩, ((j : Nat)) = ((j : Nat) : Int), j < m] ++ (cellsP w b28 (o28 + j * 1) [.int .i64 x30])) (fun _ => by kernel_rfl) (alA (al2 rfl (al2 rfl (al1 (by omega)))) (rd_pre (hns.get hx30) _ rfl)) ?_
            refine done_seq ?_
            refine at_seq ?_
            refine at_ops ?_
            refine oq 3 [(1, .go (owns 0 0 1))] [1, 3, 9, 10, 32, 33, 34] [(39, .slice p n cap), (40, .int .i64 x30)] ([]) (fun _ => by kernel_rfl) al0 ?_
            rcases hg : getB l x30 with _ | y
            ·
              refine ops_callD (.pointer none) (by kernel_rfl) (by kernel_rfl) (by kernel_rfl) (fun args w => Try.call32 args w) (fun w hw => by have := port_d p n cap l x30 w (hsl.kept hw.below) hn hb (ris_all (right_ris q3)) (ris_asc l 0 (right_ris q3)); rw [portV_none hg] at this; exact this) ?_
              refine oq 1 [] [1, 3, 9, 10, 32, 33, 34] [(13, .pointer none)] ([]) (fun _ => by kernel_rfl) al0 ?_
              refine ops_nil ?_
              refine done_seq ?_
              refine at_seq ?_
              refine at_seq ?_
              refine aq [] [1, 3, 9, 10, 13, 32, 33, 34] [(43, .bool true)] ([]) (fun _ => by kernel_rfl) al0 ?_
              refine done_seq ?_
              refine at_true (by kernel_rfl) ?_
              refine at_seq ?_
              refine aq [] [] [(6, .bool false), (7, .int .i64 4)] ([]) (fun _ => by kernel_rfl) al0 ?_
              refine done_seq ?_
              refine at_return ([]) (.tuple #[.bool false, .int .i64 4]) [] (by kernel_rfl) (by kernel_rfl) al0 ?_
              exact fun w' hw => ⟨by rw [pollV_of (by assumption) (by assumption) (by omega) (by omega), ← hI, drop_cons hx30]; simp [pollGo, hg], hw.below⟩
            ·
              obtain ⟨hy1, hy2⟩ := get_pos (ris_asc l 0 (right_ris q3)) hg
              obtain ⟨b36, o36, rfl⟩ := hsl.pos (i := posB l x30) hy2
              refine ops_callD (.pointer (some ⟨b36, o36 + (posB l x30) * 5, none⟩)) (by kernel_rfl) (by kernel_rfl) (by kernel_rfl) (fun args w => Try.call32 args w) (fun w hw => by have := port_d (some ⟨b36, o36, none⟩) n cap l x30 w (hsl.kept hw.below) hn hb (ris_all (right_ris q3)) (ris_asc l 0 (right_ris q3)); rw [portV_some hg] at this; exact this) ?_
              refine oq 1 [] [1, 3, 9, 10, 32, 33, 34] [(13, .pointer (some ⟨b36, o36 + (posB l x30) * 5, none⟩))] ([]) (fun _ => by kernel_rfl) al0 ?_
              refine ops_nil ?_
              refine done_seq ?_
              refine at_seq ?_
              refine at_seq ?_
              refine aq [] [1, 3, 9, 10, 13, 32, 33, 34] [(43, .bool false)] ([]) (fun _ => by kernel_rfl) al0 ?_
              refine done_seq ?_
              refine at_false (by kernel_rfl) ?_
              refine at_skip ?_
              refine done_seq ?_
              refine at_seq ?_
              refine at_seq ?_
              by_cases q40 : (y.vcpu : Int) ≠ (own : Int)
              ·
                refine aq [(3, .go (outs b36 (o36 + (posB l x30) * 5 + 1) [.int .i64 y.vcpu])), (5, .yes)] [1, 3, 9, 10, 13, 32, 33, 34] [(49, .bool true)] (cellsP w b36 (o36 + (posB l x30) * 5 + 1) [.int .i64 y.vcpu] ++ ([(y.vcpu : Int) ≠ (own : Int)])) (fun _ => by kernel_rfl) (alA (rd_part (hsl.get hy1) 1 _ rfl) (al1 q40)) ?_
                refine done_seq ?_
                refine at_true (by kernel_rfl) ?_
                refine aq [] [1, 3, 9, 13, 32, 33, 34] [(10, .int .i64 2)] ([]) (fun _ => by kernel_rfl) al0 ?_
                refine done_seq ?_
                rcases q44 : pd with _ | _
                ·
                  refine aq [(5, .go (outs b36 (o36 + (posB l x30) * 5 + 3) [.bool y.pending]))] [1, 3, 10, 32, 33, 34] [(9, .bool y.pending)] (cellsP w b36 (o36 + (posB l x30) * 5 + 3) [.bool y.pending]) (fun _ => by kernel_rfl) (rd_part (hsl.get hy1) 3 _ rfl) ?_
                  refine done_block ?_
                  refine done_seq ?_
                  refine aq [(0, .fit)] [1, 3, 9, 10, 32, 33] [(34, .int .i64 ((j + 1 : Nat)))] ([Fit .i64 ((j + 1 : Nat))]) (fun _ => by kernel_rfl) (al1 (fit64 (by omega) (by omega))) ?_
                  exact done_round [1, 3, 9, 10, 32, 33, 34] (j + 1, y.pending, 2) (by kernel_rfl) rfl ⟨by omega, by rw [← hI, drop_cons hx30]; simp only [pollGo, hg]; rw [if_neg (by omega)]; simp [q44]⟩ (by first | omega | (simp only; omega))
                ·
                  refine aq [] [1, 3, 10, 32, 33, 34] [(9, .bool true)] ([]) (fun _ => by kernel_rfl) al0 ?_
                  refine done_block ?_
                  refine done_seq ?_
                  refine aq [(0, .fit)] [1, 3, 9, 10, 32, 33] [(34, .int .i64 ((j + 1 : Nat)))] ([Fit .i64 ((j + 1 : Nat))]) (fun _ => by kernel_rfl) (al1 (fit64 (by omega) (by omega))) ?_
                  exact done_round [1, 3, 9, 10, 32, 33, 34] (j + 1, true, 2) (by kernel_rfl) rfl ⟨by omega, by rw [← hI, drop_cons hx30]; simp only [pollGo, hg]; rw [if_neg (by omega)]; simp [q44]⟩ (by first | omega | (simp only; omega))
              ·
                refine aq [(3, .go (outs b36 (o36 + (posB l x30) * 5 + 1) [.int .i64 y.vcpu])), (5, .no)] [1, 3, 9, 10, 13, 32, 33, 34] [(49, .bool false)] (cellsP w b36 (o36 + (posB l x30) * 5 + 1) [.int .i64 y.vcpu] ++ ([¬ ((y.vcpu : Int) ≠ (own : Int))])) (fun _ => by kernel_rfl) (alA (rd_part (hsl.get hy1) 1 _ rfl) (al1 q40)) ?_
                refine done_seq ?_
                refine at_false (by kernel_rfl) ?_
                refine at_skip ?_
                refine done_seq ?_
                rcases q51 : pd with _ | _
                ·
                  refine aq [(5, .go (outs b36 (o36 + (posB l x30) * 5 + 3) [.bool y.pending]))] [1, 3, 10, 32, 33, 34] [(9, .bool y.pending)] (cellsP w b36 (o36 + (posB l x30) * 5 + 3) [.bool y.pending]) (fun _ => by kernel_rfl) (rd_part (hsl.get hy1) 3 _ rfl) ?_
                  refine done_block ?_
                  refine done_seq ?_
                  refine aq [(0, .fit)] [1, 3, 9, 10, 32, 33] [(34, .int .i64 ((j + 1 : Nat)))] ([Fit .i64 ((j + 1 : Nat))]) (fun _ => by kernel_rfl) (al1 (fit64 (by omega) (by omega))) ?_
                  exact done_round [1, 3, 9, 10, 32, 33, 34] (j + 1, y.pending, e) (by kernel_rfl) rfl ⟨by omega, by rw [← hI, drop_cons hx30]; simp only [pollGo, hg]; rw [if_pos (by omega)]; simp [q51]⟩ (by first | omega | (simp only; omega))
                ·
                  refine aq [] [1, 3, 10, 32, 33, 34] [(9, .bool true)] ([]) (fun _ => by kernel_rfl) al0 ?_
                  refine done_block ?_
                  refine done_seq ?_
                  refine aq [(0, .fit)] [1, 3, 9, 10, 32, 33] [(34, .int .i64 ((j + 1 : Nat)))] ([Fit .i64 ((j + 1 : Nat))]) (fun _ => by kernel_rfl) (al1 (fit64 (by omega) (by omega))) ?_
                  exact done_round [1, 3, 9, 10, 32, 33, 34] (j + 1, true, e) (by kernel_rfl) rfl ⟨by omega, by rw [← hI, drop_cons hx30]; simp only [pollGo, hg]; rw [if_pos (by omega)]; simp [q51]⟩ (by first | omega | (simp only; omega))
          ·
            refine aq [(0, .no)] [1, 3, 9, 10, 32, 33, 34] [(35, .bool false)] ([¬ (((j : Nat) : Int) < ((m : Nat) : Int))]) (fun _ => by kernel_rfl) (al1 q25) ?_
            refine done_seq ?_
            refine at_seq ?_
            refine at_false (by kernel_rfl) ?_
            refine at_leave _ (by rfl) ?_
            refine done_seq ?_
            refine at_seq ?_
            rcases q58 : pd with _ | _
            ·
              refine aq [] [] [(6, .bool false), (7, .int .i64 e)] ([]) (fun _ => by kernel_rfl) al0 ?_
              refine done_seq ?_
              refine at_return ([]) (.tuple #[.bool false, .int .i64 e]) [] (by kernel_rfl) (by kernel_rfl) al0 ?_
              exact fun w' hw => ⟨by rw [pollV_of (by assumption) (by assumption) (by omega) (by omega), ← hI, List.drop_of_length_le (by omega)]; simp [pollGo, *], hw.below⟩
            ·
              by_cases q61 : (e : Int) = (0 : Int)
              ·
                refine aq [(3, .yes)] [] [(6, .bool true), (7, .int .i64 e)] ([(e : Int) = (0 : Int)]) (fun _ => by kernel_rfl) (al1 q61) ?_
                refine done_seq ?_
                refine at_return ([]) (.tuple #[.bool true, .int .i64 e]) [] (by kernel_rfl) (by kernel_rfl) al0 ?_
                exact fun w' hw => ⟨by rw [pollV_of (by assumption) (by assumption) (by omega) (by omega), ← hI, List.drop_of_length_le (by omega)]; simp [pollGo, *], hw.below⟩
              ·
                refine aq [(3, .no)] [] [(6, .bool false), (7, .int .i64 e)] ([¬ ((e : Int) = (0 : Int))]) (fun _ => by kernel_rfl) (al1 q61) ?_
                refine done_seq ?_
                refine at_return ([]) (.tuple #[.bool false, .int .i64 e]) [] (by kernel_rfl) (by kernel_rfl) al0 ?_
                exact fun w' hw => ⟨by rw [pollV_of (by assumption) (by assumption) (by omega) (by omega), ← hI, List.drop_of_length_le (by omega)]; simp [pollGo, *], hw.below⟩
end Go.Proofs.Ytfhlmijdokfdpaa
