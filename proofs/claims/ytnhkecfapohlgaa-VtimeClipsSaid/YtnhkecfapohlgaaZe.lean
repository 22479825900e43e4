/- Texts of this proof, one behind the other. -/
import Derived.Test.YtnhkecfapohlgaaZd
import Derived.Test.YtnhkecfapohlgaaZc
import Derived.Test.YtnhkecfapohlgaaZb
import Derived.Test.YtnhkecfapohlgaaZa
import Derived.ProofKit
import Derived.Carry
import Derived.Deep.Slices
import Derived.Lib.SmallJoins
import Derived.Test.YtnhkecfapohlgaaProg
/-! What comes of joining and leaving; plain. -/
namespace Go.Proofs.Ytnhkecfapohlgaa
open Go Go.RowKit

section
variable {a b f t : Fq} {n w s x y d : Int}
theorem fq_ext (ha : a.U) (hb : b.U) (hn : a.num = b.num) (hw : a.w = b.w) : a = b := by
  have h1 := ha.hl
  have h2 := hb.hl
  rw [hn] at h1
  have e1 : a.hi = b.hi := h1.1.symm.trans h2.1
  have e2 : a.lo = b.lo := h1.2.symm.trans h2.2
  cases a; cases b
  simp only at e1 e2 hw
  subst e1; subst e2; subst hw; rfl
theorem mul_lt_iff (hd : 0 < d) : x * d < y * d ↔ x < y := ⟨fun h => Int.lt_of_mul_lt_mul_right h (by omega), fun h => Int.mul_lt_mul_of_pos_right h hd⟩
theorem cmp_same (ha : a.ok = true) (hb : b.ok = true) (hw : a.w = b.w) : (cmpF a b < 0 ↔ a.num < b.num) ∧ (0 < cmpF a b ↔ b.num < a.num) := by
  have h1 := ok_iff.1 hb
  rw [cmp_yes ha hb, cmpI_neg, cmpI_pos, hw]
  exact ⟨mul_lt_iff (by omega), mul_lt_iff (by omega)⟩
theorem maxS_same (ha : a.ok = true) (hb : b.ok = true) (hw : a.w = b.w) : (maxS a b = a ∧ b.num ≤ a.num) ∨ (maxS a b = b ∧ a.num < b.num) := by
  have h := (cmp_same hb ha hw.symm).2
  by_cases h1 : 0 < cmpF b a
  · exact .inr ⟨maxS_yes h1, h.1 h1⟩
  · exact .inl ⟨maxS_no h1, by have := mt h.2 h1; omega⟩
/-- What a raise answers. -/
structure RaiseOk (t : Fq) (w : Int) (R : Fq) : Prop where
  U : R.U
  ok : R.ok = true
  wt : R.w = w
  ge : subV t.num (268435456 * t.w) * w ≤ R.num * t.w
  le : R.num ≤ upD (t.num * w) t.w
theorem floor_num : (floorV t s).num = subV t.num (s * t.w) := num_mk
theorem raise_cases (hV : t.U) (hk : t.ok = true) (hw : wB w = true) : ((raiseV ⟨0, 0, w⟩ t 268435456).2 = 0 ∧ RaiseOk t w (raiseV ⟨0, 0, w⟩ t 268435456).1) ∨ (raiseV ⟨0, 0, w⟩ t 268435456).2 = 131 := by
  have hw2 := wB_iff.1 hw
  have hk2 := ok_iff.1 hk
  have h0ok : (⟨0, 0, w⟩ : Fq).ok = true := ok_yes hw2.1 hw2.2 (by show (0 : Int) < _; decide)
  have h0U : (⟨0, 0, w⟩ : Fq).U := w_U (by omega) (by omega)
  have h0n : (⟨0, 0, w⟩ : Fq).num = 0 := rfl
  have hN := up_r (mul_lt hV.n0 (num_lt hV hk) (show 0 ≤ w by omega) hw2.2).1 hk2.1.1
  have hboth : ((⟨0, 0, w⟩ : Fq).ok && t.ok) = true := by rw [h0ok, hk]; rfl
  have hfk := floor_ok hV hk (show (0 : Int) ≤ 268435456 by decide)
  have hfU := floor_U hV hk (show (0 : Int) ≤ 268435456 by decide)
  cases hb : behV ⟨0, 0, w⟩ t 268435456 with
  | false =>
    rw [raise_same hboth hb]
    refine .inl ⟨rfl, h0U, h0ok, rfl, ?_, by rw [h0n]; exact hN.1⟩
    rw [beh_yes hboth] at hb
    have h1 := of_decide_eq_false hb
    rw [cmp_yes h0ok hfk, cmpI_neg, floor_num, h0n] at h1
    rw [h0n]
    simp only [Int.zero_mul] at h1 ⊢
    omega
  | true =>
    rw [raise_up hboth hb]
    have hw3 : (floorV t 268435456).w = t.w := rfl
    rcases over_cases hfU hfk hw with h1 | h1
    · refine .inl ⟨h1.1, h1.2.U, h1.2.ok, by rw [h1.2.eq], ?_, ?_⟩
      · rw [h1.2.num, floor_num, hw3]; exact up_le hk2.1.1
      · rw [h1.2.num, floor_num, hw3]
        refine up_least hk2.1.1 (Int.le_trans (Int.mul_le_mul_of_nonneg_right ?_ (by omega)) (up_le hk2.1.1))
        exact (sub_r hV.n0 (Int.mul_nonneg (by decide) hV.w0)).2
    · exact .inr h1.1
/-- Where one is held. -/
structure HeldOk (t : Fq) (r : Rn) (boost : Int) (R : Fq) : Prop where
  U : R.U
  ok : R.ok = true
  w : R.w = r.tw
  le : R.num ≤ upD (t.num * r.tw) t.w
  ge : subV t.num (268435456 * t.w) * r.tw ≤ R.num * t.w
  b0 : boost = 0 → R.num = upD (t.num * r.tw) t.w
  same : r.t.num = upD (t.num * r.tw) t.w → R = r.t
theorem bounds_cases {r : Rn} {boost : Int} (hV : t.U) (hk : t.ok = true) (hr : r.U) (hb : rnB r = true) (h0 : 0 ≤ boost) : (timeV (t, true) r boost).2 = 0 ∧ HeldOk t r boost (timeV (t, true) r boost).1 ∨ (timeV (t, true) r boost).2 = 131 := by
  have hb2 := rnB_iff.1 hb
  have hw : wB r.tw = true := wB_of hb2.2.2
  have hw2 := wB_iff.1 hw
  have hk2 := ok_iff.1 hk
  have hm : 0 ≤ boost * r.each := Int.mul_nonneg h0 (by omega)
  have e2 : (timeV (t, true) r boost).2 = (boundsV t r boost).2.2 := rfl
  rcases over_cases hV hk hw with ⟨h1, o⟩ | ⟨h1, _⟩
  · obtain ⟨l0, l1, l2, l3⟩ := less_ok o.U o.ok hm
    have lU := less_U o.U hm
    rcases raise_cases hV hk hw with ⟨r0, ra⟩ | r0
    · have eb := bounds_4 (t := t) (r := r) (boost := boost) (by omega) (by omega) (by omega)
      left
      rw [e2, eb]
      refine ⟨rfl, ?_⟩
      generalize hL : (lessV (overV t r.tw).1 (boost * r.each)).1 = L at l1 l2 l3 lU eb
      generalize hF : (raiseV ⟨0, 0, r.tw⟩ t 268435456).1 = F at ra eb
      have ow : (overV t r.tw).1.w = r.tw := by rw [o.eq]
      have oN := o.num
      have oU := o.U
      have oK := o.ok
      generalize hO : (overV t r.tw).1 = O at l2 l3 ow oN oU oK eb
      rw [ow] at l3
      -- low
      have hlow : ∃ W : Fq, greatV L F = W ∧ W.U ∧ W.ok = true ∧ W.w = r.tw ∧ L.num ≤ W.num ∧ F.num ≤ W.num ∧ W.num ≤ O.num := by
        have hLO : L.num ≤ O.num := by rw [l2]; exact (sub_r oU.n0 hm).2
        have hFO : F.num ≤ O.num := by rw [oN]; exact ra.le
        rcases maxS_same l1 ra.ok (l3.trans ra.wt.symm) with ⟨e, h⟩ | ⟨e, h⟩
        · exact ⟨L, e, lU, l1, l3, Int.le_refl _, h, hLO⟩
        · exact ⟨F, e, ra.U, ra.ok, ra.wt, by omega, Int.le_refl _, hFO⟩
      obtain ⟨W, eW, WU, WK, WW, hLW, hFW, hWO⟩ := hlow
      have hrw : r.t.w = r.tw := rfl
      have hmid : ∃ M : Fq, greatV W r.t = M ∧ M.U ∧ M.ok = true ∧ M.w = r.tw ∧ W.num ≤ M.num ∧ r.t.num ≤ M.num ∧ (M = W ∨ M = r.t) ∧ (M.num ≤ W.num ∨ M.num ≤ r.t.num) := by
        rcases maxS_same WK hb2.2.2 (WW.trans hrw.symm) with ⟨e, h⟩ | ⟨e, h⟩
        · exact ⟨W, e, WU, WK, WW, Int.le_refl _, h, .inl rfl, .inl (Int.le_refl _)⟩
        · exact ⟨r.t, e, hr.t, hb2.2.2, hrw, by omega, Int.le_refl _, .inr rfl, .inr (Int.le_refl _)⟩
      obtain ⟨M, eM, MU, MK, MW, hWM, hrM, hMc, hMn⟩ := hmid
      have hb1 : (boundsV t r boost).1 = W := by rw [eb]; exact eW
      have hb3 : (boundsV t r boost).2.1 = O := by rw [eb]
      have hb0L : boost = 0 → L.num = O.num := fun h => by rw [l2, h, Int.zero_mul, sub_ge (by have := oU.n0; omega)]; omega
      have hcmp := (cmp_same MK oK (MW.trans ow.symm)).2
      have hgeF : ∀ Z : Fq, F.num ≤ Z.num → subV t.num (268435456 * t.w) * r.tw ≤ Z.num * t.w := fun Z h => Int.le_trans ra.ge (Int.mul_le_mul_of_nonneg_right h (by omega))
      by_cases hc : 0 < cmpF M O
      · have hlt := hcmp.1 hc
        have e1 : (timeV (t, true) r boost).1 = O := by
          rw [time_hi rfl (by rw [hb1, hb3]; show 0 < cmpF (greatV W r.t) O; rw [eM]; exact hc)]; exact hb3
        rw [e1]
        refine ⟨oU, oK, ow, by rw [oN]; exact Int.le_refl _, hgeF O (by omega), fun _ => oN, fun hs => ?_⟩
        rw [← oN] at hs
        rcases hMn with h | h <;> omega
      · have hle : M.num ≤ O.num := by have := mt hcmp.2 hc; omega
        have e1 : (timeV (t, true) r boost).1 = M := by
          rw [time_lo rfl (by rw [hb1, hb3]; show ¬ 0 < cmpF (greatV W r.t) O; rw [eM]; exact hc), hb1]; exact eM
        rw [e1]
        refine ⟨MU, MK, MW, by rw [← oN]; exact hle, hgeF M (by omega), fun h => ?_, fun hs => ?_⟩
        · have := hb0L h; omega
        · rw [← oN] at hs
          exact fq_ext MU hr.t (by omega) (MW.trans hrw.symm)
    · right; rw [e2, bounds_3 (by omega) (by omega) (by omega)]; exact r0
  · right; rw [e2, bounds_1 (by omega)]; exact h1
end
section
variable {ts : List Rn} {r x : Rn} {k boost : Int}
theorem top_any : (topV ts).2 = true ↔ ts ≠ [] := by
  unfold topV
  have key : ∀ (l : List Rn) (s : Fq × Bool), s.2 = true → (l.foldl topS s).2 = true := by
    intro l
    induction l with
    | nil => intro s h; exact h
    | cons r l ih => intro s h; refine ih _ ?_; unfold topS; split <;> simp_all
  cases ts with
  | nil => simp
  | cons r l =>
    simp only [ne_eq, reduceCtorEq, not_false_eq_true, iff_true, List.foldl_cons]
    refine key l _ ?_
    rw [topS_yes (.inl rfl)]
theorem top_mem (h : (topV ts).2 = true) : ∃ r ∈ ts, (topV ts).1 = r.t := by
  have := topV_ind (ts := ts) (P := fun s => s.2 = true → ∃ r ∈ ts, s.1 = r.t) (fun h => by cases h) (fun s r hr _ _ => ⟨r, hr, rfl⟩)
  exact this h
theorem top_ok (hg : GoodQ ts) (h : (topV ts).2 = true) : (topV ts).1.ok = true := by
  obtain ⟨r, hr, e⟩ := top_mem h
  rw [e]; exact (hg.bnd hr).2.2.2.2
structure JoinOk (ts : List Rn) (r : Rn) (boost : Int) : Prop where
  good : GoodQ ts
  rn : rnB r = true
  none : getK Rn.id ts r.id = none
  b0 : boost ≤ 10000000
  time : (timeV (topV ts) r boost).2 = 0
  eq : (joinV ts r boost).1 = insK Rn.id ts (newR ts r boost)
theorem time_split : timeV (topV ts) r boost = timeV ((topV ts).1, (topV ts).2) r boost := rfl
/-- What is held of who joins. -/
theorem new_facts (hU : ∀ x ∈ ts, x.U) (hr : r.U) (h0 : 0 ≤ boost) (J : JoinOk ts r boost) : (newR ts r boost).U ∧ rnB (newR ts r boost) = true ∧ (newR ts r boost).t.w = r.tw ∧ ((topV ts).2 = false → newR ts r boost = r) ∧ ((topV ts).2 = true → HeldOk (topV ts).1 r boost (newR ts r boost).t) := by
  have hb2 := rnB_iff.1 J.rn
  have et : (newR ts r boost).t = (timeV (topV ts) r boost).1 := rfl
  cases ha : (topV ts).2 with
  | false =>
    have e : newR ts r boost = r := by unfold newR; rw [time_none ha]; rfl
    rw [e]
    exact ⟨hr, J.rn, rfl, fun _ => rfl, fun h => by cases h⟩
  | true =>
    have hs : timeV (topV ts) r boost = timeV ((topV ts).1, true) r boost := by rw [time_split, ha]
    rcases bounds_cases (topV_U hU) (top_ok J.good ha) hr J.rn h0 with ⟨_, H⟩ | h
    · rw [← hs, ← et] at H
      exact ⟨⟨hr.i0, hr.i1, hr.e0, hr.e1, H.U⟩, rnB_iff.2 ⟨hb2.1, hb2.2.1, H.ok⟩, H.w, (fun h => by cases h), fun _ => H⟩
    · have := J.time; rw [hs] at this; omega
theorem JoinOk.chk (J : JoinOk ts r boost) (hU : ∀ x ∈ ts, x.U) (hr : r.U) (h0 : 0 ≤ boost) : GoodQ (insK Rn.id ts (newR ts r boost)) ∧ ∀ x ∈ insK Rn.id ts (newR ts r boost), x.U := by
  have N := new_facts hU hr h0 J
  refine ⟨⟨ris_insK J.good.rs J.none, fun x hx => ?_⟩, fun x hx => ?_⟩
  · rcases mem_insK.1 hx with rfl | hx
    · exact N.2.1
    · exact J.good.rn x hx
  · rcases mem_insK.1 hx with rfl | hx
    · exact N.1
    · exact hU x hx
theorem JoinOk.get (J : JoinOk ts r boost) (hU : ∀ x ∈ ts, x.U) (hr : r.U) (h0 : 0 ≤ boost) : getQ (joinV ts r boost).1 r.id = some (newR ts r boost) := by
  rw [J.eq, getQ_ok (chk_iff.2 (J.chk hU hr h0).1)]
  exact (getK_iff (J.chk hU hr h0).1.rs).2 ⟨mem_insK.2 (.inl rfl), rfl⟩
/-- VtimeNear, told by what is reckoned. -/
structure NearFacts (ts : List Rn) (r : Rn) (boost : Int) (own : Rn) (s : Fq × Bool) : Prop where
  U : own.U
  get : getQ (joinV ts r boost).1 r.id = some own
  chk : chkQ (joinV ts r boost).1 = true
  len : (joinV ts r boost).1.length = ts.length + 1
  each : own.each = r.each
  w : own.tw = r.tw
  tU : s.1.U
  empty : s.2 = false → own = r
  less : (lessV own.t 1).2 = 0
  beh : s.2 = true → behV own.t s.1 268435456 = false
  near : s.2 = true → ¬ (own.th = 0 ∧ own.tl = 0) → cmpF (lessV own.t 1).1 s.1 < 0
  b0 : s.2 = true → boost = 0 → 0 ≤ cmpF own.t s.1
  same : s.2 = true → cmpF r.t s.1 = 0 → own.t = r.t
  leave : leaveV (joinV ts r boost).1 r.id = (ts, some own, 0)
/-- VtimeGains, told by what is reckoned. -/
structure GainFacts (n : List Rn) (r : Rn) (k : Int) : Prop where
  U : r.U
  UL : ∀ x ∈ n, x.U
  none : getQ n k = none
  err : (joinV n r 0).2 = 0 ∨ (joinV n r 0).2 = 131
  get : (joinV n r 0).2 = 0 → getQ (joinV n r 0).1 k = some (newR n r 0)
  nU : (joinV n r 0).2 = 0 → (newR n r 0).U
  ge : (joinV n r 0).2 = 0 → 0 ≤ cmpF (newR n r 0).t r.t ∨ ((topQ n).2 = true ∧ 0 < cmpF r.t (topQ n).1)
  top : (joinV n r 0).2 = 0 → (topQ n).2 = true → 0 ≤ cmpF (newR n r 0).t (topQ n).1
theorem topQ_U (hU : ∀ x ∈ ts, x.U) : (topQ ts).1.U := by
  unfold topQ
  split
  · exact topV_U hU
  · exact z_U
end
end Go.Proofs.Ytnhkecfapohlgaa

/-! What comes of a clip; plain. -/
namespace Go.Proofs.Ytnhkecfapohlgaa
open Go Go.RowKit

section
variable {a b c f t u : Fq} {x y z : Int}
/-- One value is not above another one. -/
def leF (a b : Fq) : Prop := a.num * b.w ≤ b.num * a.w
theorem leF_refl : leF a a := Int.le_refl _
theorem leF_trans (hb : 0 < b.w) (ha : 0 ≤ a.w) (hc : 0 ≤ c.w) (h1 : leF a b) (h2 : leF b c) : leF a c := by
  unfold leF at *
  have e1 : a.num * b.w * c.w ≤ b.num * a.w * c.w := Int.mul_le_mul_of_nonneg_right h1 hc
  have e2 : b.num * c.w * a.w ≤ c.num * b.w * a.w := Int.mul_le_mul_of_nonneg_right h2 ha
  have e3 : a.num * c.w * b.w ≤ c.num * a.w * b.w := by
    have i1 : a.num * c.w * b.w = a.num * b.w * c.w := by rw [Int.mul_assoc, Int.mul_comm c.w b.w, ← Int.mul_assoc]
    have i2 : b.num * a.w * c.w = b.num * c.w * a.w := by rw [Int.mul_assoc, Int.mul_comm a.w c.w, ← Int.mul_assoc]
    have i3 : c.num * b.w * a.w = c.num * a.w * b.w := by rw [Int.mul_assoc, Int.mul_comm b.w a.w, ← Int.mul_assoc]
    omega
  exact Int.le_of_mul_le_mul_right e3 hb
theorem cmp_leF (ha : a.ok = true) (hb : b.ok = true) : ¬ 0 < cmpF a b ↔ leF a b := by
  rw [cmp_yes ha hb, cmpI_pos]; unfold leF; omega
theorem okW (ha : a.ok = true) : 0 < a.w := by have := (ok_iff.1 ha).1; omega
/-- The top is above all. -/
theorem top_max : ∀ {l : List Rn} {s : Fq × Bool}, (∀ r ∈ l, r.t.ok = true) → (s.2 = true → s.1.ok = true) → (∀ r ∈ l, leF r.t (l.foldl topS s).1) ∧ (s.2 = true → leF s.1 (l.foldl topS s).1) ∧ (l ≠ [] ∨ s.2 = true → (l.foldl topS s).1.ok = true)
  | [], s, _, hs => ⟨(fun r h => by cases h), (fun _ => leF_refl), fun h => h.elim (fun h => absurd rfl h) hs⟩
  | r :: l, s, hl, hs => by
    have hr := hl r (List.mem_cons_self ..)
    have h1 : (topS s r).2 = true := by unfold topS; split <;> simp_all
    have h2 : (topS s r).1.ok = true := by
      unfold topS
      split
      · exact hr
      · rename_i hn; exact hs (by cases e : s.2 <;> simp_all)
    obtain ⟨i1, i2, i3⟩ := top_max (l := l) (s := topS s r) (fun y hy => hl y (List.mem_cons_of_mem _ hy)) (fun _ => h2)
    have h3 := i3 (.inr h1)
    have g := i2 h1
    have hle : leF r.t (topS s r).1 := by
      unfold topS
      split
      · exact leF_refl
      · rename_i hn
        have hs2 : s.2 = true := by cases e : s.2 <;> simp_all
        exact (cmp_leF hr (hs hs2)).1 (fun h => hn (.inr h))
    refine ⟨fun y hy => ?_, fun hs2 => ?_, fun _ => h3⟩
    · rcases List.mem_cons.1 hy with rfl | hy
      · exact leF_trans (okW h2) (Int.le_of_lt (okW hr)) (Int.le_of_lt (okW h3)) hle g
      · exact i1 y hy
    · have h4 : leF s.1 (topS s r).1 := by
        unfold topS
        split
        · rename_i hc
          rcases hc with hc | hc
          · rw [hs2] at hc; cases hc
          · rw [cmp_yes hr (hs hs2), cmpI_pos] at hc; unfold leF; show s.1.num * r.t.w ≤ r.t.num * s.1.w; omega
        · exact leF_refl
      exact leF_trans (okW h2) (Int.le_of_lt (okW (hs hs2))) (Int.le_of_lt (okW h3)) h4 g
end
section
variable {ts : List Rn} {tp : Fq} {r x : Rn} {k : Int}
theorem top_ge (hg : GoodQ ts) (hr : r ∈ ts) : leF r.t (topV ts).1 := (top_max (l := ts) (s := (zF, false)) (fun y hy => (hg.bnd hy).2.2.2.2) (fun h => by cases h)).1 r hr
/-- What is lifted, and to where. -/
structure LiftOk (tp : Fq) (r : Rn) : Prop where
  cg : chg tp r = behV r.t tp 268435456
  ok : (clR tp r).t.ok = true
  U : (clR tp r).U
  w : (clR tp r).tw = r.tw
  beh : behV (clR tp r).t tp 268435456 = false
  ge : subV tp.num (268435456 * tp.w) * r.tw ≤ (clR tp r).t.num * tp.w
  le : leF r.t tp → leF (clR tp r).t tp
  up : chg tp r = true → 0 < cmpF (clR tp r).t r.t
  same : chg tp r = false → clR tp r = r
theorem clR_t : (clR tp r).t = (raiseV r.t tp 268435456).1 := rfl
theorem lift_ok (hV : tp.U) (hk : tp.ok = true) (hr : r.U) (hb : rnB r = true) (he : clE tp r = 0) : LiftOk tp r := by
  have hb2 := (rnB_iff.1 hb).2.2
  have hrw : r.t.w = r.tw := rfl
  have hw : wB r.tw = true := wB_of hb2
  have hw2 := wB_iff.1 hw
  have hk2 := ok_iff.1 hk
  have hboth : (r.t.ok && tp.ok) = true := by rw [hb2, hk]; rfl
  have hfk := floor_ok hV hk (show (0 : Int) ≤ 268435456 by decide)
  have hfU := floor_U hV hk (show (0 : Int) ≤ 268435456 by decide)
  have hfw : (floorV tp 268435456).w = tp.w := rfl
  have behIff : ∀ z : Fq, z.ok = true → (behV z tp 268435456 = true ↔ z.num * tp.w < subV tp.num (268435456 * tp.w) * z.w) := fun z hz => by
    rw [beh_yes (by rw [hz, hk]; rfl), decide_eq_true_eq, cmp_yes hz hfk, cmpI_neg, floor_num, hfw]
  cases hbe : behV r.t tp 268435456 with
  | false =>
    have e : raiseV r.t tp 268435456 = (r.t, 0) := raise_same hboth hbe
    have es : clR tp r = r := clR_same (by rw [e])
    have ec : chg tp r = false := chg_no (by rw [e])
    have hge := mt (behIff r.t hb2).2 (by rw [hbe]; decide)
    refine ⟨ec.trans hbe.symm, ?_, ?_, ?_, ?_, ?_, ?_, ?_, fun _ => es⟩
    · rw [es]; exact hb2
    · rw [es]; exact hr
    · rw [es]
    · rw [es]; exact hbe
    · rw [es]; rw [hrw] at hge; omega
    · rw [es]; exact fun h => h
    · intro h; rw [ec] at h; cases h
  | true =>
    have e : raiseV r.t tp 268435456 = overV (floorV tp 268435456) r.tw := raise_up hboth hbe
    have he2 : (overV (floorV tp 268435456) r.tw).2 = 0 := by rw [← e]; exact he
    have o := over_ok0 hfU hfk hw he2
    have et : (clR tp r).t = (overV (floorV tp 268435456) r.tw).1 := by rw [clR_t, e]
    have eN : (clR tp r).t.num = upD (subV tp.num (268435456 * tp.w) * r.tw) tp.w := by rw [et, o.num, floor_num, hfw]
    have ew : (clR tp r).t.w = r.tw := by rw [et, o.eq]
    have hge : subV tp.num (268435456 * tp.w) * r.tw ≤ (clR tp r).t.num * tp.w := by rw [eN]; exact up_le hk2.1.1
    have hlt := (behIff r.t hb2).1 hbe
    rw [hrw] at hlt
    have hok : (clR tp r).t.ok = true := by rw [et]; exact o.ok
    have hnum : r.t.num < (clR tp r).t.num := Int.lt_of_mul_lt_mul_right (Int.lt_of_lt_of_le hlt hge) (by omega)
    have hcmp := (cmp_same hok hb2 (ew.trans hrw.symm)).2.2 hnum
    have ec : chg tp r = true := chg_yes (fun h => by rw [← clR_t] at h; rw [h] at hnum; omega)
    have hr0 := hr.t.n0
    refine ⟨ec.trans hbe.symm, hok, ⟨hr.i0, hr.i1, hr.e0, hr.e1, by rw [et]; exact o.U⟩, ew, ?_, hge, fun _ => ?_, fun _ => hcmp, fun h => by rw [ec] at h; cases h⟩
    · cases h : behV (clR tp r).t tp 268435456 with
      | false => rfl
      | true => have := (behIff _ hok).1 h; rw [ew] at this; omega
    · unfold leF
      rw [ew, eN]
      have h1 := up_lt (x := subV tp.num (268435456 * tp.w) * r.tw) hk2.1.1
      have hF : ¬ tp.num < 268435456 * tp.w := fun h => by rw [sub_lt h, Int.zero_mul] at hlt; have := Int.mul_nonneg hr0 hV.w0; omega
      rw [sub_ge hF] at h1 ⊢
      generalize upD ((tp.num - 268435456 * tp.w) * r.tw) tp.w = z at h1 ⊢
      rw [Int.sub_mul z, Int.one_mul, Int.sub_mul tp.num] at h1
      have h2 : 268435456 * tp.w * 1 ≤ 268435456 * tp.w * r.tw := Int.mul_le_mul_of_nonneg_left (by omega) (by omega)
      omega
structure ClipOk (ts : List Rn) : Prop where
  good : GoodQ ts
  all : ∀ r ∈ ts, clE (topV ts).1 r = 0
  eq : (clipV ts).1 = ts.map (clR (topV ts).1)
  ids : (clipV ts).2.1 = (ts.filter (chg (topV ts).1)).map Rn.id
theorem errL_iff {e : Rn → Int} : ∀ {l : List Rn}, errL e l = 0 → ∀ r ∈ l, e r = 0
  | [], _, r, h => by cases h
  | x :: l, h0, r, h => by
    unfold errL at h0
    by_cases hx : e x = 0
    · rw [if_neg (by omega)] at h0
      rcases List.mem_cons.1 h with rfl | h
      · exact hx
      · exact errL_iff (l := l) h0 r h
    · rw [if_pos hx] at h0; exact absurd h0 hx
theorem clip_yes (h : (clipV ts).2.2 = 0) : ClipOk ts := by
  cases hc : chkQ ts with
  | false => rw [clip_bad hc] at h; cases h
  | true =>
    by_cases he : errL (clE (topV ts).1) ts = 0
    · exact ⟨chk_iff.1 hc, errL_iff he, by rw [clip_ok hc he], by rw [clip_ok hc he]⟩
    · rw [clip_err hc he] at h; exact absurd h he
theorem clip_nil (h : (clipV ts).2.2 ≠ 0) : (clipV ts).1 = [] ∧ (clipV ts).2.1 = [] := by
  cases hc : chkQ ts with
  | false => rw [clip_bad hc]; exact ⟨rfl, rfl⟩
  | true =>
    by_cases he : errL (clE (topV ts).1) ts = 0
    · rw [clip_ok hc he] at h; exact absurd rfl h
    · rw [clip_err hc he]; exact ⟨rfl, rfl⟩
theorem clip_len : (clipV ts).1.length ≤ ts.length := by
  by_cases h : (clipV ts).2.2 = 0
  · rw [(clip_yes h).eq, List.length_map]; exact Nat.le_refl _
  · rw [(clip_nil h).1]; simp
theorem clip_lenI : (clipV ts).2.1.length ≤ ts.length := by
  by_cases h : (clipV ts).2.2 = 0
  · rw [(clip_yes h).ids, List.length_map]; exact List.length_filter_le _ _
  · rw [(clip_nil h).2]; simp
theorem ClipOk.lift (C : ClipOk ts) (hU : ∀ r ∈ ts, r.U) (hr : r ∈ ts) : LiftOk (topV ts).1 r := by
  have hne : ts ≠ [] := fun h => by rw [h] at hr; cases hr
  exact lift_ok (topV_U hU) (top_ok C.good (top_any.2 hne)) (hU r hr) (C.good.rn r hr) (C.all r hr)
theorem ClipOk.U (C : ClipOk ts) (hU : ∀ r ∈ ts, r.U) : ∀ x ∈ ts.map (clR (topV ts).1), x.U := fun x hx => by
  obtain ⟨r, hr, rfl⟩ := List.mem_map.1 hx
  exact (C.lift hU hr).U
theorem clip_U (hU : ∀ r ∈ ts, r.U) : ∀ x ∈ (clipV ts).1, x.U := by
  by_cases h : (clipV ts).2.2 = 0
  · rw [(clip_yes h).eq]; exact (clip_yes h).U hU
  · rw [(clip_nil h).1]; intro x hx; cases hx
theorem ClipOk.good2 (C : ClipOk ts) (hU : ∀ r ∈ ts, r.U) : GoodQ (ts.map (clR (topV ts).1)) := by
  refine ⟨?_, fun x hx => ?_⟩
  · unfold Ris; rw [List.pairwise_map]; exact C.good.rs
  · obtain ⟨r, hr, rfl⟩ := List.mem_map.1 hx
    have hb := rnB_iff.1 (C.good.rn r hr)
    exact rnB_iff.2 ⟨hb.1, hb.2.1, (C.lift hU hr).ok⟩
/-- The top stays. -/
theorem ClipOk.top (C : ClipOk ts) (hU : ∀ r ∈ ts, r.U) (hne : ts ≠ []) : leF (topV ts).1 (topV (ts.map (clR (topV ts).1))).1 ∧ leF (topV (ts.map (clR (topV ts).1))).1 (topV ts).1 ∧ (topV (ts.map (clR (topV ts).1))).1.ok = true := by
  have G2 := C.good2 hU
  have hne2 : ts.map (clR (topV ts).1) ≠ [] := by simpa using hne
  have tk := top_ok C.good (top_any.2 hne)
  have tk2 := top_ok G2 (top_any.2 hne2)
  obtain ⟨r0, hr0, e0⟩ := top_mem (top_any.2 hne)
  obtain ⟨x, hx, e1⟩ := top_mem (top_any.2 hne2)
  have L0 := C.lift hU hr0
  refine ⟨?_, ?_, tk2⟩
  · have hg := top_ge G2 (List.mem_map.2 ⟨r0, hr0, rfl⟩)
    have hb0 : behV r0.t (topV ts).1 268435456 = false := by
      rw [← e0, beh_yes (by rw [tk]; rfl)]
      refine decide_eq_false ?_
      rw [cmp_yes tk (floor_ok (topV_U hU) tk (by decide)), cmpI_neg, floor_num]
      have h1 := sub_r (topV_U hU).n0 (Int.mul_nonneg (show (0 : Int) ≤ 268435456 by decide) (topV_U hU).w0)
      have h2 := Int.mul_le_mul_of_nonneg_right h1.2 (topV_U hU).w0
      show ¬ (topV ts).1.num * (topV ts).1.w < _
      omega
    rw [L0.same (L0.cg.trans hb0), ← e0] at hg
    exact hg
  · rw [e1]
    obtain ⟨r, hr, rfl⟩ := List.mem_map.1 hx
    exact (C.lift hU hr).le (top_ge C.good hr)
/-- Behind a clip nobody is behind any more, whichever top is asked. -/
theorem ClipOk.still (C : ClipOk ts) (hU : ∀ r ∈ ts, r.U) (hr : r ∈ ts) : behV (clR (topV ts).1 r).t (topV (ts.map (clR (topV ts).1))).1 268435456 = false := by
  have hne : ts ≠ [] := fun h => by rw [h] at hr; cases hr
  obtain ⟨t1, t2, tk2⟩ := C.top hU hne
  have L := C.lift hU hr
  have tk := top_ok C.good (top_any.2 hne)
  have hV := topV_U hU
  have hV2 := topV_U (C.U hU)
  have ok := L.ok
  have LU := L.U.t
  have hge := L.ge
  have hw := L.w
  have ew : (clR (topV ts).1 r).t.w = r.tw := hw
  generalize (clR (topV ts).1 r).t = z at ok LU hge ew ⊢
  generalize (topV (ts.map (clR (topV ts).1))).1 = u at t1 t2 tk2 hV2 ⊢
  generalize (topV ts).1 = t at t1 t2 tk hV hge
  have hk := ok_iff.1 tk
  have hk2 := ok_iff.1 tk2
  rw [beh_yes (by rw [ok, tk2]; rfl)]
  refine decide_eq_false ?_
  rw [cmp_yes ok (floor_ok hV2 tk2 (by decide)), cmpI_neg, floor_num]
  show ¬ z.num * u.w < _
  by_cases hF : u.num < 268435456 * u.w
  · rw [sub_lt hF, Int.zero_mul]
    have := Int.mul_nonneg LU.n0 hV2.w0
    omega
  · rw [sub_ge hF, ew]
    intro hlt
    unfold leF at t1 t2
    have e1 : t.num * u.w = u.num * t.w := by omega
    have p1 : (u.num - 268435456 * u.w) * t.w = (t.num - 268435456 * t.w) * u.w := by
      rw [Int.sub_mul, Int.sub_mul, e1, Int.mul_assoc, Int.mul_assoc, Int.mul_comm u.w t.w]
    have p0 : 0 ≤ (u.num - 268435456 * u.w) * t.w := Int.mul_nonneg (by omega) hV.w0
    have hT : ¬ t.num < 268435456 * t.w := fun h => by
      have h3 : (t.num - 268435456 * t.w) * u.w ≤ (-1) * u.w := Int.mul_le_mul_of_nonneg_right (by omega) hV2.w0
      omega
    rw [sub_ge hT] at hge
    have h4 : z.num * u.w * t.w < (u.num - 268435456 * u.w) * r.tw * t.w := Int.mul_lt_mul_of_pos_right hlt (by omega)
    have h5 : (t.num - 268435456 * t.w) * r.tw * u.w ≤ z.num * t.w * u.w := Int.mul_le_mul_of_nonneg_right hge hV2.w0
    have i1 : (u.num - 268435456 * u.w) * r.tw * t.w = (u.num - 268435456 * u.w) * t.w * r.tw := by rw [Int.mul_assoc, Int.mul_comm r.tw t.w, ← Int.mul_assoc]
    have i2 : (t.num - 268435456 * t.w) * r.tw * u.w = (t.num - 268435456 * t.w) * u.w * r.tw := by rw [Int.mul_assoc, Int.mul_comm r.tw u.w, ← Int.mul_assoc]
    have i3 : z.num * u.w * t.w = z.num * t.w * u.w := by rw [Int.mul_assoc, Int.mul_comm u.w t.w, ← Int.mul_assoc]
    rw [i1, p1, ← i2, i3] at h4
    omega
theorem ClipOk.again (C : ClipOk ts) (hU : ∀ r ∈ ts, r.U) : clipV (ts.map (clR (topV ts).1)) = (ts.map (clR (topV ts).1), [], 0) := by
  have G2 := C.good2 hU
  have U2 := C.U hU
  have hraise : ∀ x ∈ ts.map (clR (topV ts).1), raiseV x.t (topV (ts.map (clR (topV ts).1))).1 268435456 = (x.t, 0) := fun x hx => by
    obtain ⟨r, hr, rfl⟩ := List.mem_map.1 hx
    have hne : ts ≠ [] := fun h => by rw [h] at hr; cases hr
    exact raise_same (by rw [(C.lift hU hr).ok, (C.top hU hne).2.2]; rfl) (C.still hU hr)
  have he : errL (clE (topV (ts.map (clR (topV ts).1))).1) (ts.map (clR (topV ts).1)) = 0 := errL_zero fun x hx => by unfold clE; rw [hraise x hx]
  rw [clip_ok (chk_iff.2 G2) he]
  have h1 : (ts.map (clR (topV ts).1)).map (clR (topV (ts.map (clR (topV ts).1))).1) = ts.map (clR (topV ts).1) := by
    conv => rhs; rw [← List.map_id (ts.map (clR (topV ts).1))]
    exact List.map_congr_left fun x hx => clR_same (by rw [hraise x hx])
  have h2 : (ts.map (clR (topV ts).1)).filter (chg (topV (ts.map (clR (topV ts).1))).1) = [] := List.filter_eq_nil_iff.2 fun x hx => by rw [chg_no (by rw [hraise x hx])]; decide
  rw [h1, h2]; rfl
theorem ClipOk.any (C : ClipOk ts) (hU : ∀ r ∈ ts, r.U) : (topQ (clipV ts).1).2 = (topQ ts).2 := by
  rw [C.eq, topQ_ok (chk_iff.2 (C.good2 hU)), topQ_ok (chk_iff.2 C.good), Bool.eq_iff_iff, top_any, top_any]
  simp
theorem ClipOk.cmp (C : ClipOk ts) (hU : ∀ r ∈ ts, r.U) (ha : (topQ ts).2 = true) : cmpF (topQ ts).1 (topQ (clipV ts).1).1 = 0 := by
  rw [topQ_ok (chk_iff.2 C.good)] at ha ⊢
  rw [C.eq, topQ_ok (chk_iff.2 (C.good2 hU))]
  obtain ⟨t1, t2, tk2⟩ := C.top hU (top_any.1 ha)
  rw [cmp_yes (top_ok C.good ha) tk2, cmpI_zero]
  unfold leF at t1 t2
  omega
/-- What is seen at one place behind a clip. -/
structure ClipAt (ts : List Rn) (x r : Rn) : Prop where
  get : getQ ts x.id = some r
  rU : r.U
  xU : x.U
  beh : behV x.t (topQ ts).1 268435456 = false
  map : decide (x.id ∈ (clipV ts).2.1) = behV r.t (topQ ts).1 268435456
  same : behV r.t (topQ ts).1 268435456 = false → x = r
  up : behV r.t (topQ ts).1 268435456 = true → 0 < cmpF x.t r.t
theorem ClipOk.at (C : ClipOk ts) (hU : ∀ r ∈ ts, r.U) {j : Nat} (hx : (clipV ts).1[j]? = some x) : ∃ r, ClipAt ts x r := by
  rw [C.eq, List.getElem?_map] at hx
  cases hr : ts[j]? with
  | none => rw [hr] at hx; cases hx
  | some r =>
    rw [hr] at hx
    obtain rfl : clR (topV ts).1 r = x := Option.some.inj hx
    have hm := List.mem_of_getElem? hr
    have L := C.lift hU hm
    have hg : getK Rn.id ts r.id = some r := (getK_iff C.good.rs).2 ⟨hm, rfl⟩
    refine ⟨r, ?_, hU r hm, L.U, ?_, ?_, ?_, ?_⟩
    · rw [getQ_ok (chk_iff.2 C.good)]; exact hg
    all_goals rw [topQ_ok (chk_iff.2 C.good)]
    · exact L.beh
    · rw [C.ids, ← L.cg]
      show decide (r.id ∈ _) = _
      cases hc : chg (topV ts).1 r with
      | true => exact decide_eq_true (List.mem_map.2 ⟨r, List.mem_filter.2 ⟨hm, hc⟩, rfl⟩)
      | false =>
        refine decide_eq_false fun h => ?_
        obtain ⟨y, hy, he⟩ := List.mem_map.1 h
        obtain ⟨hy1, hy2⟩ := List.mem_filter.1 hy
        have : y = r := C.good.rs.inj hy1 hm he
        subst this
        rw [hc] at hy2; cases hy2
    · intro h; exact L.same (L.cg.trans h)
    · intro h; exact L.up (L.cg.trans h)
theorem ClipOk.againV (C : ClipOk ts) (hU : ∀ r ∈ ts, r.U) : clipV (clipV ts).1 = ((clipV ts).1, [], 0) := by
  rw [C.eq]; exact C.again hU
/- the map of those that were lifted -/
def metL (l : List Int) : List (Int × Bool) := l.foldl (fun D n => mupd D n true) []
theorem metL_on {l : List Int} {n : Int} {j : Nat} (hx : l[j]? = some n) : metL (l.take (j + 1)) = mupd (metL (l.take j)) n true := by
  unfold metL; rw [List.take_add_one, hx, List.foldl_append]; rfl
theorem metL_all {l : List Int} {j : Nat} (hj : l.length ≤ j) : metL (l.take j) = metL l := by rw [List.take_of_length_le hj]
theorem mget_mupd {k k' : Int} : ∀ {D : List (Int × Bool)}, mget (mupd D k true) k' = if k = k' then some true else mget D k'
  | [] => rfl
  | p :: D => by
    have ih := mget_mupd (k := k) (k' := k') (D := D)
    unfold mupd
    by_cases h : p.1 = k
    · rw [if_pos h]
      by_cases h2 : k = k'
      · simp [mget, h2]
      · have : ¬ p.1 = k' := by omega
        simp [mget, h2, this]
    · rw [if_neg h]
      show (if p.1 = k' then some p.2 else mget (mupd D k true) k') = _
      rw [ih]
      by_cases h2 : p.1 = k'
      · have : ¬ k = k' := by omega
        simp [mget, h2, this]
      · simp [mget, h2]
theorem metL_get {l : List Int} {k : Int} : (mget (metL l) k).getD false = decide (k ∈ l) := by
  have key : ∀ (l : List Int) (D : List (Int × Bool)), (mget (l.foldl (fun D n => mupd D n true) D) k).getD false = (decide (k ∈ l) || (mget D k).getD false) := by
    intro l
    induction l with
    | nil => intro D; simp
    | cons n l ih =>
      intro D
      rw [List.foldl_cons, ih, mget_mupd]
      by_cases h : n = k
      · subst h; simp
      · have : ¬ k = n := fun e => h e.symm
        simp [h, this]
  have := key l []
  simpa [metL, mget] using this
end
end Go.Proofs.Ytnhkecfapohlgaa

/-! The walker: a look into a map, where the order is drawn. -/
namespace Go.Proofs.Ytnhkecfapohlgaa
open Go Go.RowKit
section
variable {E : Env} {k : List Fr} {l : Sl} {L : List Ob} {all os : List Oper} {o : Oper} {i : Nat}
theorem calm_lookup {β : Type} {ik : IntKind} {enc : β → Value} {es : Array MapEntry} {ck : Nat} {D : List (Int × β)} (j : Nat) {t : TypeId} {x y : Operand} {c : Bool} {g : Nat} {kk : Int} (z u : Value) (ho : o.op = .lookup t x y c) (hw : wantL all l o = some true) (hd : (okD E.n o.dst && knownO l o) = true)
    (hx : look l x = .map (some g)) (hy : look l y = .int ik kk) (hT : mapB E.P t ik z) (hj : L[j]? = some (g, .map es ck)) (hM : MapIs ik enc es D) (hu : (if c then .tuple #[((mget D kk).map enc).getD z, .bool (mget D kk).isSome] else ((mget D kk).map enc).getD z) = u)
    (h : Calm E k all os (i + 1) (putL o.dst u l) L) : Calm E k all (o :: os) i l L := by
  obtain ⟨kt, et, h1, h2, h34⟩ := hT
  obtain ⟨inf, h3, h4⟩ := Option.bind_eq_some_iff.1 h34
  simp only [Bool.and_eq_true] at hd
  refine ⟨fun a ha => calm_readG (wantL_spec ha hw) u (fun _ w hs _ => ?_) (fun _ _ hw _ => hw) (h.out _ (ha.put hd.1 u))⟩
  have hr := run_lookupM h1 h2 h3 h4 (hs.row j hj) hM (k := kk) c
  rw [look_exec ha hd.2]
  simp [execOp, ho, hx, hy, hr, hu]
end
end Go.Proofs.Ytnhkecfapohlgaa

/-! The statement VtimeClips, walked. -/
namespace Go.Proofs.Ytnhkecfapohlgaa
open Go Go.RowKit
theorem bool_eqRun (op : BinOp) (hop : op = .eql ∨ op = .neq) (x y : Operand) (a b r : Bool) (hr : r = (if op = .eql then a == b else !(a == b))) : EqRun Try.prog op 4 x y (.bool a) (.bool b) r := by
 intro w
 subst hr
 have hg : Try.prog.eqGuardType Try.prog.depth 4 = false := by kernel_rfl
 have key : (Op.equal 4 (.bool a) (.bool b)).run Try.prog w = .ok (a == b) w := by
  unfold Op.equal
  rw [show Op.maxDepth = 9999 + 1 from rfl]
  exact run_equalIn_bool' w 9999 4 a b Try.underlying4
 have guard : (eqGuard op 4 x y (.bool a) (.bool b)).run Try.prog w = .ok () w := by
  unfold eqGuard
  rcases hop with rfl | rfl <;> simp [hg]
 rw [Sem.run_bind, guard]
 simp only [Result.andThen_ok]
 rcases hop with rfl | rfl <;> simp [binOp, Sem.run_bind, key]
theorem bool_ne {x y : Operand} (a b : Bool) : EqRun Try.prog .neq 4 x y (.bool a) (.bool b) (!(a == b)) := bool_eqRun _ (.inr rfl) x y a b _ (by simp)
theorem hs_re {w0 w : World} {A Y Z B : List Ob} (h : Hs w0 (A ++ ((Y ++ Z) ++ B)) w) : Hs w0 (A ++ (Y ++ (Z ++ B))) w := by rwa [← List.append_assoc Y Z B]

set_option maxRecDepth 100000 in
theorem clips_law (p : Option Addr) (n cap : Nat) (ts : List Rn) (w : World)
 (hts : Sv w p ts) (hn : n = ts.length) (hcp : n ≤ cap) (hb : n ≤ 9223372036854775807)
 (hU : ∀ r ∈ ts, r.U)
 : Calls Try.prog 7 #[.agg #[.slice p n cap]] w fun e w' => e = .returned (.bool true) ∧ Below w.heap.size w w' := by
 refine enter (Hs.start w) Try.func7 rfl Try.ntmps7 rfl (sq_ (ma0 [] [] (fun γ1 => [(1, .pointer (some ⟨γ1 0, 0, none⟩))]) (fun γ1 L => bx (γ1 0) (#[.slice p n cap]) 24 :: L) (fun γ1 => ds_ (sq_ (sq_ (ao_ (cD (.bool true) Try.call9 (fun w hw => wakes_t w) (qo0 1 [] [1] [(21, .bool false)] (on_ (ds_ (f_ (at_skip (ds_ (sq_ (ao_ (qo0 1 [(0, .go (owns 0 0 1))] [] [(22, .agg #[.slice p n cap])] (cP (fun v L' => ∃ q_ n_ c_ Y_, v = .agg #[.slice q_ n_ c_] ∧ L' = List.take 1 ([bx (γ1 0) (#[.slice p n cap]) 24]) ++ (Y_ ++ List.drop 1 ([bx (γ1 0) (#[.slice p n cap]) 24])) ∧ SlO 35 Y_ q_ n_ c_ (ts.take 17)) Try.call10 (fun w hw => (short_t p n cap ts w (hts.kept hw.below) hn hcp hb).mono fun e w' ⟨q_, n_, c_, Y_, he, hO, hb, hY⟩ => ⟨_, _, he, ⟨q_, n_, c_, Y_, rfl, rfl, hO⟩, hw.join hb hY 1⟩) ?_)))))))))))))))))
 rintro v5 L5 ⟨q5, n5, c5, Y5, rfl, rfl, hO5⟩
 have hl5 := hO5.len
 have hbd5 : n5 ≤ 17 := by rw [hl5, List.length_take]; omega
 refine mo0 2 [(3, .go (owns 0 0 1))] [] (fun γ6 => [(3, .pointer (some ⟨γ6 0, 0, none⟩))]) (fun γ6 L => bx (γ6 0) (#[.slice q5 n5 c5]) 24 :: L) (fun γ6 => on_ (ds_ (sq_ (ao_ (qo0 1 [(0, .go (owns 0 0 1))] [3] [(25, .agg #[.slice q5 n5 c5])] (cD (.tuple #[.agg #[.int .u64 ((topQ (ts.take 17)).1.hi), .int .u64 ((topQ (ts.take 17)).1.lo), .int .u64 ((topQ (ts.take 17)).1.w)], .bool ((topQ (ts.take 17)).2)]) Try.call22 (fun w hw => topq_t q5 n5 c5 (ts.take 17) w (hO5.atN (A := [_, _]) hw) hO5.len (by omega) (take_U hU)) (mo0 6 [(6, .go (owns 0 0 3))] [3] (fun γ8 => [(4, .pointer (some ⟨γ8 0, 0, none⟩)), (5, .bool ((topQ (ts.take 17)).2))]) (fun γ8 L => bx (γ8 0) (#[.int .u64 ((topQ (ts.take 17)).1.hi), .int .u64 ((topQ (ts.take 17)).1.lo), .int .u64 ((topQ (ts.take 17)).1.w)]) 33 :: L) (fun γ8 => on_ (ds_ (sq_ (ao_ (qo0 1 [(0, .go (owns 1 0 1))] [3, 4, 5] [(30, .agg #[.slice q5 n5 c5])] (cP (fun v L' => ∃ q_ n_ c_ Y_ p_ m_ d_ Z_, v = .tuple #[.agg #[.slice q_ n_ c_], .slice p_ m_ d_, .int .i64 ((clipV (ts.take 17)).2.2)] ∧ L' = List.take 3 (bx (γ8 0) (#[.int .u64 ((topQ (ts.take 17)).1.hi), .int .u64 ((topQ (ts.take 17)).1.lo), .int .u64 ((topQ (ts.take 17)).1.w)]) 33 :: bx (γ6 0) (#[.slice q5 n5 c5]) 24 :: bx (γ1 0) (#[.slice p n cap]) 24 :: (Y5 ++ [])) ++ (Y_ ++ (Z_ ++ List.drop 3 (bx (γ8 0) (#[.int .u64 ((topQ (ts.take 17)).1.hi), .int .u64 ((topQ (ts.take 17)).1.lo), .int .u64 ((topQ (ts.take 17)).1.w)]) 33 :: bx (γ6 0) (#[.slice q5 n5 c5]) 24 :: bx (γ1 0) (#[.slice p n cap]) 24 :: (Y5 ++ [])))) ∧ SlO 35 Y_ q_ n_ c_ ((clipV (ts.take 17)).1) ∧ SlO 3 Z_ p_ m_ d_ ((clipV (ts.take 17)).2.1)) Try.call29 (fun w hw => (clip_t q5 n5 c5 (ts.take 17) w (hO5.atN (A := [_, _, _]) hw) hO5.len (by omega) (take_U hU)).mono fun e w' ⟨q_, n_, c_, Y_, p_, m_, d_, Z_, he, hO, hP, hb, hY⟩ => by exact ⟨_, _, he, ⟨q_, n_, c_, Y_, p_, m_, d_, Z_, rfl, rfl, hO, hP⟩, hs_re (hw.join hb hY 3)⟩) ?_)))))))))))))
 rintro v10 L10 ⟨q10, n10, c10, Y10, p10, m10, d10, Z10, rfl, rfl, hO10, hP10⟩
 have hl10 := hO10.len
 have hm10 := hP10.len
 have hbd10 : n10 ≤ 17 := by rw [hl10]; exact Nat.le_trans clip_len (by rw [← hl5]; omega)
 have hbe10 : m10 ≤ 17 := by rw [hm10]; exact Nat.le_trans clip_lenI (by rw [← hl5]; omega)
 refine mo0 8 [(7, .go (owns 0 0 1))] [3, 4, 5] (fun γ11 => [(6, .pointer (some ⟨γ11 0, 0, none⟩)), (7, .slice p10 m10 d10), (8, .int .i64 ((clipV (ts.take 17)).2.2))]) (fun γ11 L => bx (γ11 0) (#[.slice q10 n10 c10]) 24 :: L) (fun γ11 => on_ (ds_ (sq_ (sq_ ?_))))
 by_cases q13 : ((clipV (ts.take 17)).2.2 : Int) ≠ (0 : Int)
 ·
  refine qa [(1, .yes)] [3, 4, 5, 6, 7] [(36, .bool true)] ([((clipV (ts.take 17)).2.2 : Int) ≠ (0 : Int)]) (al1 q13) (ds_ (t_ (sq_ ?_)))
  have hz6 := clip_nil q13
  have hz7 : n10 = 0 := by rw [hl10, hz6.1]; rfl
  have hz8 : m10 = 0 := by rw [hm10, hz6.2]; rfl
  refine qa [(1, .go (owns 0 0 1)), (5, .fit), (6, .yes)] [] [(2, .bool true)] ([Fit .i64 ((n10 + m10 : Nat))] ++ ([((n10 + m10 : Nat) : Int) = (0 : Int)])) (alA (al1 (fit64 (by omega) (by omega))) (al1 (by omega))) (ds_ (rt ([]) (.bool true) ?_))
  exact fun w' hw => ⟨rfl, hw.below⟩
 ·
  refine qa [(1, .no)] [3, 4, 5, 6, 7] [(36, .bool false)] ([¬ (((clipV (ts.take 17)).2.2 : Int) ≠ (0 : Int))]) (al1 q13) (ds_ (f_ (at_skip (ds_ (sq_ ?_)))))
  have hC := clip_yes (ts := (ts.take 17)) (by omega)
  have hany := hC.any (take_U hU)
  refine ao_ (qo0 1 [(0, .go (owns 0 0 1))] [3, 4, 5, 6, 7] [(45, .agg #[.slice q10 n10 c10])] (cD (.tuple #[.agg #[.int .u64 ((topQ ((clipV (ts.take 17)).1)).1.hi), .int .u64 ((topQ ((clipV (ts.take 17)).1)).1.lo), .int .u64 ((topQ ((clipV (ts.take 17)).1)).1.w)], .bool ((topQ (ts.take 17)).2)]) Try.call22 (fun w hw => by have := topq_t q10 n10 c10 ((clipV (ts.take 17)).1) w (hO10.atN (A := [_, _, _, _]) hw) hO10.len (by omega) (clip_U (take_U hU)); rw [hany] at this; exact this) (mo0 6 [(6, .go (owns 0 0 3))] [3, 4, 5, 6, 7] (fun γ18 => [(9, .pointer (some ⟨γ18 0, 0, none⟩)), (10, .bool ((topQ (ts.take 17)).2))]) (fun γ18 L => bx (γ18 0) (#[.int .u64 ((topQ ((clipV (ts.take 17)).1)).1.hi), .int .u64 ((topQ ((clipV (ts.take 17)).1)).1.lo), .int .u64 ((topQ ((clipV (ts.take 17)).1)).1.w)]) 33 :: L) (fun γ18 => on_ (ds_ (sq_ (sq_ ?_)))))))
  rcases q20 : (topQ (ts.take 17)).2 with _ | _
  ·
   refine qa [(2, .eqs false)] [3, 4, 6, 7] [(60, .bool false)] ([EqRun Try.prog .neq 4 (.tmp 49) (.tmp 50) (.bool false) (.bool false) false]) (al1 (bool_ne false false)) (ds_ (f_ (at_skip (ds_ (sq_ (ma0 [] [3, 4, 6, 7] (fun γ22 => [(11, .map (some (γ22 0)))]) (fun γ22 L => (γ22 0, .map #[] 0) :: L) (fun γ22 => ds_ (sq_ (sq_ (qa0 [] [3, 4, 6, 11] [(62, .slice p10 m10 d10), (63, .int .i64 (m10 : Nat)), (64, .int .i64 0)] (ds_ (at_block (at_loop (α := Nat × Array MapEntry × Nat) [3, 4, 6, 11, 62, 63, 64] (fun ⟨j, eD, kD⟩ => [(3, .pointer (some ⟨γ6 0, 0, none⟩)), (4, .pointer (some ⟨γ8 0, 0, none⟩)), (6, .pointer (some ⟨γ11 0, 0, none⟩)), (11, .map (some (γ22 0))), (62, .slice p10 m10 d10), (63, .int .i64 (m10 : Nat)), (64, .int .i64 (j : Nat))]) (fun ⟨j, eD, kD⟩ => (γ22 0, .map eD kD) :: bx (γ18 0) (#[.int .u64 ((topQ ((clipV (ts.take 17)).1)).1.hi), .int .u64 ((topQ ((clipV (ts.take 17)).1)).1.lo), .int .u64 ((topQ ((clipV (ts.take 17)).1)).1.w)]) 33 :: bx (γ11 0) (#[.slice q10 n10 c10]) 24 :: bx (γ8 0) (#[.int .u64 ((topQ (ts.take 17)).1.hi), .int .u64 ((topQ (ts.take 17)).1.lo), .int .u64 ((topQ (ts.take 17)).1.w)]) 33 :: bx (γ6 0) (#[.slice q5 n5 c5]) 24 :: bx (γ1 0) (#[.slice p n cap]) 24 :: (Y10 ++ (Z10 ++ (Y5 ++ [])))) (fun ⟨j, eD, kD⟩ => j ≤ m10 ∧ MapIs .i64 Value.bool eD (metL (((clipV (ts.take 17)).2.1).take j))) (fun ⟨j, eD, kD⟩ => m10 - j) (0, #[], 0) (by kernel_rfl) rfl ⟨Nat.zero_le _, MapIs.nil⟩ ?_)))))))))))))
   rintro ⟨j, eD, kD⟩
   rintro ⟨hj, hmD⟩
   refine sq_ ?_
   by_cases q25 : ((j : Nat) : Int) < ((m10 : Nat) : Int)
   ·
    refine qa [(0, .yes)] [3, 4, 6, 11, 62, 63, 64] [(65, .bool true)] ([((j : Nat) : Int) < ((m10 : Nat) : Int)]) (al1 q25) (ds_ (sq_ (t_ (at_skip (ds_ (sq_ (at_block (sq_ (At.pick [[(γ22 0, .map eD kD)], [bx (γ18 0) (#[.int .u64 ((topQ ((clipV (ts.take 17)).1)).1.hi), .int .u64 ((topQ ((clipV (ts.take 17)).1)).1.lo), .int .u64 ((topQ ((clipV (ts.take 17)).1)).1.w)]) 33], [bx (γ11 0) (#[.slice q10 n10 c10]) 24], [bx (γ8 0) (#[.int .u64 ((topQ (ts.take 17)).1.hi), .int .u64 ((topQ (ts.take 17)).1.lo), .int .u64 ((topQ (ts.take 17)).1.w)]) 33], [bx (γ6 0) (#[.slice q5 n5 c5]) 24], [bx (γ1 0) (#[.slice p n cap]) 24], Y10, Z10, Y5] [0, 1, 2, 3, 4, 5, 7, 6, 8] [] ((γ22 0, .map eD kD) :: bx (γ18 0) (#[.int .u64 ((topQ ((clipV (ts.take 17)).1)).1.hi), .int .u64 ((topQ ((clipV (ts.take 17)).1)).1.lo), .int .u64 ((topQ ((clipV (ts.take 17)).1)).1.w)]) 33 :: bx (γ11 0) (#[.slice q10 n10 c10]) 24 :: bx (γ8 0) (#[.int .u64 ((topQ (ts.take 17)).1.hi), .int .u64 ((topQ (ts.take 17)).1.lo), .int .u64 ((topQ (ts.take 17)).1.w)]) 33 :: bx (γ6 0) (#[.slice q5 n5 c5]) 24 :: bx (γ1 0) (#[.slice p n cap]) 24 :: (Z10 ++ (Y10 ++ (Y5 ++ [])))) (by kernel_rfl) rfl rfl ?_)))))))))
    have hln28 := hP10.len
    obtain ⟨g28, cs28, rfl, rfl, hOw28⟩ := hP10.rowOf (i := j) (by omega)
    obtain ⟨x30, hx30⟩ := get_some (l := (clipV (ts.take 17)).2.1) (m := j) (by omega)
    refine qa [(0, .at g28 0 j), (1, .go (ownps 6 (0 + j * 1) [.int .i64 x30]))] [3, 4, 6, 11, 62, 63, 64] [(13, .int .i64 x30)] ([(some ⟨g28, 0, none⟩ : Option Addr) = some ⟨g28, 0, none⟩, (j : Nat) = ((j : Nat) : Int), j < m10] ++ (acellsP cs28 (0 + j * 1) [.int .i64 x30])) (alA (al2 rfl (al2 rfl (al1 (by omega)))) (rda_pre (hOw28.rdx hP10.len hx30) _ rfl)) (ds_ (ao_ (qo0 2 [] [3, 4, 6, 11, 62, 63, 64] [(68, .map (some (γ22 0))), (69, .int .i64 x30)] (ops_update (ik := .i64) (enc := Value.bool) (kk := x30) 0 true (Value.bool false) rfl (by kernel_rfl) (by kernel_rfl) (by kernel_rfl) (by kernel_rfl) (by kernel_rfl) (⟨3, 4, by kernel_rfl, by kernel_rfl, by kernel_rfl⟩ : mapB Try.prog 67 .i64 (Value.bool false)) rfl hmD (fun es33 ck33 hM33 => on_ (done_block (ds_ (qa [(0, .fit)] [3, 4, 6, 11, 62, 63] [(64, .int .i64 (j + 1 : Nat))] ([Fit .i64 ((j + 1 : Nat))]) (al1 (fit64 (by omega) (by omega))) (Done.pick [[(γ22 0, .map es33 ck33)], [bx (γ18 0) (#[.int .u64 ((topQ ((clipV (ts.take 17)).1)).1.hi), .int .u64 ((topQ ((clipV (ts.take 17)).1)).1.lo), .int .u64 ((topQ ((clipV (ts.take 17)).1)).1.w)]) 33], [bx (γ11 0) (#[.slice q10 n10 c10]) 24], [bx (γ8 0) (#[.int .u64 ((topQ (ts.take 17)).1.hi), .int .u64 ((topQ (ts.take 17)).1.lo), .int .u64 ((topQ (ts.take 17)).1.w)]) 33], [bx (γ6 0) (#[.slice q5 n5 c5]) 24], [bx (γ1 0) (#[.slice p n cap]) 24], [bx g28 cs28 3], Y10, Y5] [0, 1, 2, 3, 4, 5, 7, 6, 8] [] ((γ22 0, .map es33 ck33) :: bx (γ18 0) (#[.int .u64 ((topQ ((clipV (ts.take 17)).1)).1.hi), .int .u64 ((topQ ((clipV (ts.take 17)).1)).1.lo), .int .u64 ((topQ ((clipV (ts.take 17)).1)).1.w)]) 33 :: bx (γ11 0) (#[.slice q10 n10 c10]) 24 :: bx (γ8 0) (#[.int .u64 ((topQ (ts.take 17)).1.hi), .int .u64 ((topQ (ts.take 17)).1.lo), .int .u64 ((topQ (ts.take 17)).1.w)]) 33 :: bx (γ6 0) (#[.slice q5 n5 c5]) 24 :: bx (γ1 0) (#[.slice p n cap]) 24 :: (Y10 ++ ([bx g28 cs28 3] ++ (Y5 ++ [])))) (by kernel_rfl) rfl rfl ?_)))))))))
    exact dr [3, 4, 6, 11, 62, 63, 64] (j + 1, es33, ck33) ⟨by omega, by rw [metL_on hx30]; exact hM33⟩
   ·
    refine qa [(0, .no)] [3, 4, 6, 11, 62, 63, 64] [(65, .bool false)] ([¬ (((j : Nat) : Int) < ((m10 : Nat) : Int))]) (al1 q25) (ds_ (sq_ (f_ (at_leave _ rfl (ds_ (sq_ (sq_ ?_)))))))
    rw [metL_all (by omega)] at hmD
    refine qa0 [(1, .go (owns 2 0 1))] [3, 4, 6, 11] [(72, .slice q10 n10 c10), (73, .int .i64 (n10 : Nat)), (74, .int .i64 0)] (ds_ (at_block (at_loop (α := Nat) [3, 4, 6, 11, 72, 73, 74] (fun j => [(3, .pointer (some ⟨γ6 0, 0, none⟩)), (4, .pointer (some ⟨γ8 0, 0, none⟩)), (6, .pointer (some ⟨γ11 0, 0, none⟩)), (11, .map (some (γ22 0))), (72, .slice q10 n10 c10), (73, .int .i64 (n10 : Nat)), (74, .int .i64 (j : Nat))]) (fun j => (γ22 0, .map eD kD) :: bx (γ18 0) (#[.int .u64 ((topQ ((clipV (ts.take 17)).1)).1.hi), .int .u64 ((topQ ((clipV (ts.take 17)).1)).1.lo), .int .u64 ((topQ ((clipV (ts.take 17)).1)).1.w)]) 33 :: bx (γ11 0) (#[.slice q10 n10 c10]) 24 :: bx (γ8 0) (#[.int .u64 ((topQ (ts.take 17)).1.hi), .int .u64 ((topQ (ts.take 17)).1.lo), .int .u64 ((topQ (ts.take 17)).1.w)]) 33 :: bx (γ6 0) (#[.slice q5 n5 c5]) 24 :: bx (γ1 0) (#[.slice p n cap]) 24 :: (Y10 ++ (Z10 ++ (Y5 ++ [])))) (fun j => j ≤ n10) (fun j => n10 - j) 0 (by kernel_rfl) rfl (Nat.zero_le _) ?_)))
    rintro j
    intro hj
    refine sq_ ?_
    by_cases q39 : ((j : Nat) : Int) < ((n10 : Nat) : Int)
    ·
     refine qa [(0, .yes)] [3, 4, 6, 11, 72, 73, 74] [(75, .bool true)] ([((j : Nat) : Int) < ((n10 : Nat) : Int)]) (al1 q39) (ds_ (sq_ (t_ (at_skip (ds_ (sq_ (at_block (sq_ ?_))))))))
     have hln42 := hO10.len
     obtain ⟨g42, cs42, rfl, rfl, hOw42⟩ := hO10.rowOf (i := j) (by omega)
     obtain ⟨x44, hx44⟩ := get_some (l := (clipV (ts.take 17)).1) (m := j) (by omega)
     refine ma [(0, .at g42 0 j), (1, .go (ownps 6 (0 + j * 5) [.int .i64 x44.id, .int .i64 x44.each, .int .u64 x44.th, .int .u64 x44.tl, .int .u64 x44.tw])), (3, .go (owns 0 0 5))] [3, 4, 6, 11, 72, 73, 74] (fun γ45 => [(15, .pointer (some ⟨γ45 0, 0, none⟩))]) (fun γ45 L => bx (γ45 0) (#[.int .i64 x44.id, .int .i64 x44.each, .int .u64 x44.th, .int .u64 x44.tl, .int .u64 x44.tw]) 35 :: L) (fun γ45 => [(some ⟨g42, 0, none⟩ : Option Addr) = some ⟨g42, 0, none⟩, (j : Nat) = ((j : Nat) : Int), j < n10] ++ (acellsP cs42 (0 + j * 5) [.int .i64 x44.id, .int .i64 x44.each, .int .u64 x44.th, .int .u64 x44.tl, .int .u64 x44.tw])) (fun γ45 => (alA (al2 rfl (al2 rfl (al1 (by omega)))) (rda_pre (hOw42.rdx hO10.len hx44) _ rfl))) (fun γ45 => ds_ (sq_ ?_))
     obtain ⟨r46, hA⟩ := hC.at (take_U hU) hx44
     have hxi := hA.xU.i0
     have hxj := hA.xU.i1
     refine ao_ (qo0 3 [(0, .go (owns 5 0 1)), (2, .go (owns 0 0 1))] [3, 4, 6, 11, 15, 72, 73, 74] [(79, .agg #[.slice q5 n5 c5]), (81, .int .i64 x44.id)] (cD (.tuple #[.agg #[.int .i64 r46.id, .int .i64 r46.each, .int .u64 r46.th, .int .u64 r46.tl, .int .u64 r46.tw], .bool true]) Try.call11 (fun w hw => by have := getq_t q5 n5 c5 (ts.take 17) x44.id w (hO5.atN (A := (_ :: _ :: _ :: _ :: _ :: _ :: _ :: _ :: Z10)) hw) hO5.len (by omega) (take_U hU) (by omega) (by omega); rw [hA.get] at this; exact this) (mo0 6 [(8, .go (owns 0 0 5))] [3, 4, 6, 11, 15, 72, 73, 74] (fun γ48 => [(16, .pointer (some ⟨γ48 0, 0, none⟩)), (17, .bool true)]) (fun γ48 L => bx (γ48 0) (#[.int .i64 r46.id, .int .i64 r46.each, .int .u64 r46.th, .int .u64 r46.tl, .int .u64 r46.tw]) 35 :: L) (fun γ48 => on_ (ds_ (sq_ ?_))))))
     rcases q49 : behV r46.t ((topQ (ts.take 17)).1) 268435456 with _ | _
     ·
      refine at_calm rfl (by kernel_rfl) (by kernel_rfl) ?_
      refine cm 6 [(4, .go (owns 1 2 3)), (5, .go (owns 5 0 3))] [3, 4, 6, 11, 15, 16, 72, 73, 74] [(87, .bool false), (89, .agg #[.int .u64 x44.th, .int .u64 x44.tl, .int .u64 x44.tw]), (90, .agg #[.int .u64 ((topQ (ts.take 17)).1.hi), .int .u64 ((topQ (ts.take 17)).1.lo), .int .u64 ((topQ (ts.take 17)).1.w)])] ([]) (by kernel_rfl) rfl al0 ?_
      refine cK (.bool false) Try.call30 (fun w hw => by have := fbeh_t x44.t ((topQ (ts.take 17)).1) 268435456 w hA.xU.t (topQ_U (take_U hU)) (by decide) (by decide); rw [hA.beh] at this; exact this) ?_
      refine cm 5 [(11, .go (owns 1 0 1))] [3, 4, 6, 11, 15, 16, 72, 73, 74] [(93, .bool false), (94, .map (some (γ22 0))), (96, .int .i64 x44.id)] ([]) (by kernel_rfl) rfl al0 ?_
      refine calm_lookup (ik := .i64) (enc := Value.bool) (kk := x44.id) 2 (Value.bool false) (.bool false) rfl (by kernel_rfl) (by kernel_rfl) (by kernel_rfl) (by kernel_rfl) (⟨3, 4, by kernel_rfl, by kernel_rfl, by kernel_rfl⟩ : mapB Try.prog 67 .i64 (Value.bool false)) rfl hmD ((map_getD _ _ _).trans (congrArg Value.bool ((metL_get.trans hA.map).trans q49))) ?_
      refine cm 3 [(14, .go (owns 0 2 3)), (15, .go (owns 5 0 3))] [3, 4, 6, 11, 15, 16, 72, 73, 74, 93, 97] [(99, .agg #[.int .u64 r46.th, .int .u64 r46.tl, .int .u64 r46.tw]), (100, .agg #[.int .u64 ((topQ (ts.take 17)).1.hi), .int .u64 ((topQ (ts.take 17)).1.lo), .int .u64 ((topQ (ts.take 17)).1.w)])] ([]) (by kernel_rfl) rfl al0 ?_
      refine cK (.bool false) Try.call30 (fun w hw => by have := fbeh_t r46.t ((topQ (ts.take 17)).1) 268435456 w hA.rU.t (topQ_U (take_U hU)) (by decide) (by decide); rw [q49] at this; exact this) ?_
      refine cm 6 [(17, .eqs false), (22, .go (owns 1 0 1))] [3, 4, 6, 11, 15, 16, 72, 73, 74] [(104, .bool false), (105, .map (some (γ22 0))), (107, .int .i64 x44.id)] ([EqRun Try.prog .neq 4 (.tmp 97) (.tmp 101) (.bool false) (.bool false) false]) (by kernel_rfl) rfl (al1 (bool_ne false false)) ?_
      refine calm_lookup (ik := .i64) (enc := Value.bool) (kk := x44.id) 2 (Value.bool false) (.bool false) rfl (by kernel_rfl) (by kernel_rfl) (by kernel_rfl) (by kernel_rfl) (⟨3, 4, by kernel_rfl, by kernel_rfl, by kernel_rfl⟩ : mapB Try.prog 67 .i64 (Value.bool false)) rfl hmD ((map_getD _ _ _).trans (congrArg Value.bool ((metL_get.trans hA.map).trans q49))) ?_
      refine cm 11 [(26, .go (owns 1 0 5)), (27, .go (owns 0 0 5)), (28, .eqs false), (34, .go (owns 1 0 1))] [3, 4, 6, 11, 15, 16, 72, 73, 74] [(116, .bool false), (117, .map (some (γ22 0))), (119, .int .i64 x44.id)] ([EqRun Try.prog .neq 35 (.tmp 111) (.tmp 112) (.agg #[.int .i64 x44.id, .int .i64 x44.each, .int .u64 x44.th, .int .u64 x44.tl, .int .u64 x44.tw]) (.agg #[.int .i64 r46.id, .int .i64 r46.each, .int .u64 r46.th, .int .u64 r46.tl, .int .u64 r46.tw]) false]) (by kernel_rfl) rfl (al1 (rn_ne_t (a := x44) (b := r46) (hA.same q49))) ?_
      refine calm_lookup (ik := .i64) (enc := Value.bool) (kk := x44.id) 2 (Value.bool false) (.bool false) rfl (by kernel_rfl) (by kernel_rfl) (by kernel_rfl) (by kernel_rfl) (⟨3, 4, by kernel_rfl, by kernel_rfl, by kernel_rfl⟩ : mapB Try.prog 67 .i64 (Value.bool false)) rfl hmD ((map_getD _ _ _).trans (congrArg Value.bool ((metL_get.trans hA.map).trans q49))) ?_
      refine cm 9 [] [3, 4, 6, 11, 72, 73, 74] [(129, .bool false)] ([]) (by kernel_rfl) rfl al0 ?_
      refine calm_nil' ?_
      refine ds_ (f_ (at_skip (done_block (ds_ (qa [(0, .fit)] [3, 4, 6, 11, 72, 73] [(74, .int .i64 (j + 1 : Nat))] ([Fit .i64 ((j + 1 : Nat))]) (al1 (fit64 (by omega) (by omega))) (Done.pick [[bx (γ48 0) (#[.int .i64 r46.id, .int .i64 r46.each, .int .u64 r46.th, .int .u64 r46.tl, .int .u64 r46.tw]) 35], [bx (γ45 0) (#[.int .i64 x44.id, .int .i64 x44.each, .int .u64 x44.th, .int .u64 x44.tl, .int .u64 x44.tw]) 35], [(γ22 0, .map eD kD)], [bx (γ18 0) (#[.int .u64 ((topQ ((clipV (ts.take 17)).1)).1.hi), .int .u64 ((topQ ((clipV (ts.take 17)).1)).1.lo), .int .u64 ((topQ ((clipV (ts.take 17)).1)).1.w)]) 33], [bx (γ11 0) (#[.slice (some ⟨g42, 0, none⟩) n10 c10]) 24], [bx (γ8 0) (#[.int .u64 ((topQ (ts.take 17)).1.hi), .int .u64 ((topQ (ts.take 17)).1.lo), .int .u64 ((topQ (ts.take 17)).1.w)]) 33], [bx (γ6 0) (#[.slice q5 n5 c5]) 24], [bx (γ1 0) (#[.slice p n cap]) 24], [bx g42 cs42 35], Z10, Y5] [2, 3, 4, 5, 6, 7, 8, 9, 10] [0, 1] ((γ22 0, .map eD kD) :: bx (γ18 0) (#[.int .u64 ((topQ ((clipV (ts.take 17)).1)).1.hi), .int .u64 ((topQ ((clipV (ts.take 17)).1)).1.lo), .int .u64 ((topQ ((clipV (ts.take 17)).1)).1.w)]) 33 :: bx (γ11 0) (#[.slice (some ⟨g42, 0, none⟩) n10 c10]) 24 :: bx (γ8 0) (#[.int .u64 ((topQ (ts.take 17)).1.hi), .int .u64 ((topQ (ts.take 17)).1.lo), .int .u64 ((topQ (ts.take 17)).1.w)]) 33 :: bx (γ6 0) (#[.slice q5 n5 c5]) 24 :: bx (γ1 0) (#[.slice p n cap]) 24 :: ([bx g42 cs42 35] ++ (Z10 ++ (Y5 ++ [])))) (by kernel_rfl) rfl rfl ?_))))))
      exact done_round [3, 4, 6, 11, 72, 73, 74] (j + 1) (by kernel_rfl) rfl (by show j + 1 ≤ n10; omega) (by first | omega | (simp only; omega))
     ·
      refine at_calm rfl (by kernel_rfl) (by kernel_rfl) ?_
      refine cm 6 [(4, .go (owns 1 2 3)), (5, .go (owns 5 0 3))] [3, 4, 6, 11, 15, 16, 72, 73, 74] [(87, .bool false), (89, .agg #[.int .u64 x44.th, .int .u64 x44.tl, .int .u64 x44.tw]), (90, .agg #[.int .u64 ((topQ (ts.take 17)).1.hi), .int .u64 ((topQ (ts.take 17)).1.lo), .int .u64 ((topQ (ts.take 17)).1.w)])] ([]) (by kernel_rfl) rfl al0 ?_
      refine cK (.bool false) Try.call30 (fun w hw => by have := fbeh_t x44.t ((topQ (ts.take 17)).1) 268435456 w hA.xU.t (topQ_U (take_U hU)) (by decide) (by decide); rw [hA.beh] at this; exact this) ?_
      refine cm 5 [(11, .go (owns 1 0 1))] [3, 4, 6, 11, 15, 16, 72, 73, 74] [(93, .bool false), (94, .map (some (γ22 0))), (96, .int .i64 x44.id)] ([]) (by kernel_rfl) rfl al0 ?_
      refine calm_lookup (ik := .i64) (enc := Value.bool) (kk := x44.id) 2 (Value.bool false) (.bool true) rfl (by kernel_rfl) (by kernel_rfl) (by kernel_rfl) (by kernel_rfl) (⟨3, 4, by kernel_rfl, by kernel_rfl, by kernel_rfl⟩ : mapB Try.prog 67 .i64 (Value.bool false)) rfl hmD ((map_getD _ _ _).trans (congrArg Value.bool ((metL_get.trans hA.map).trans q49))) ?_
      refine cm 3 [(14, .go (owns 0 2 3)), (15, .go (owns 5 0 3))] [3, 4, 6, 11, 15, 16, 72, 73, 74, 93, 97] [(99, .agg #[.int .u64 r46.th, .int .u64 r46.tl, .int .u64 r46.tw]), (100, .agg #[.int .u64 ((topQ (ts.take 17)).1.hi), .int .u64 ((topQ (ts.take 17)).1.lo), .int .u64 ((topQ (ts.take 17)).1.w)])] ([]) (by kernel_rfl) rfl al0 ?_
      refine cK (.bool true) Try.call30 (fun w hw => by have := fbeh_t r46.t ((topQ (ts.take 17)).1) 268435456 w hA.rU.t (topQ_U (take_U hU)) (by decide) (by decide); rw [q49] at this; exact this) ?_
      refine cm 6 [(17, .eqs false), (22, .go (owns 1 0 1))] [3, 4, 6, 11, 15, 16, 72, 73, 74] [(104, .bool false), (105, .map (some (γ22 0))), (107, .int .i64 x44.id)] ([EqRun Try.prog .neq 4 (.tmp 97) (.tmp 101) (.bool true) (.bool true) false]) (by kernel_rfl) rfl (al1 (bool_ne true true)) ?_
      refine calm_lookup (ik := .i64) (enc := Value.bool) (kk := x44.id) 2 (Value.bool false) (.bool true) rfl (by kernel_rfl) (by kernel_rfl) (by kernel_rfl) (by kernel_rfl) (⟨3, 4, by kernel_rfl, by kernel_rfl, by kernel_rfl⟩ : mapB Try.prog 67 .i64 (Value.bool false)) rfl hmD ((map_getD _ _ _).trans (congrArg Value.bool ((metL_get.trans hA.map).trans q49))) ?_
      refine cm 11 [(34, .go (owns 1 0 1))] [3, 4, 6, 11, 15, 16, 72, 73, 74] [(116, .bool false), (117, .map (some (γ22 0))), (119, .int .i64 x44.id)] ([]) (by kernel_rfl) rfl al0 ?_
      refine calm_lookup (ik := .i64) (enc := Value.bool) (kk := x44.id) 2 (Value.bool false) (.bool true) rfl (by kernel_rfl) (by kernel_rfl) (by kernel_rfl) (by kernel_rfl) (⟨3, 4, by kernel_rfl, by kernel_rfl, by kernel_rfl⟩ : mapB Try.prog 67 .i64 (Value.bool false)) rfl hmD ((map_getD _ _ _).trans (congrArg Value.bool ((metL_get.trans hA.map).trans q49))) ?_
      refine cm 5 [(38, .go (owns 1 2 3)), (40, .go (owns 0 2 3))] [3, 4, 6, 11, 72, 73, 74, 116] [(121, .bool true), (123, .agg #[.int .u64 x44.th, .int .u64 x44.tl, .int .u64 x44.tw]), (125, .agg #[.int .u64 r46.th, .int .u64 r46.tl, .int .u64 r46.tw])] ([]) (by kernel_rfl) rfl al0 ?_
      refine cK (.int .i64 (cmpF x44.t r46.t)) Try.call13 (fun w hw => fcmp_t x44.t r46.t w hA.xU.t hA.rU.t) ?_
      refine cm 3 [(42, .no)] [3, 4, 6, 11, 72, 73, 74] [(129, .bool false)] ([¬ (((cmpF x44.t r46.t) : Int) ≤ (0 : Int))]) (by kernel_rfl) rfl (al1 (by have h9 := hA.up q49; omega)) ?_
      refine calm_nil' ?_
      refine ds_ (f_ (at_skip (done_block (ds_ (qa [(0, .fit)] [3, 4, 6, 11, 72, 73] [(74, .int .i64 (j + 1 : Nat))] ([Fit .i64 ((j + 1 : Nat))]) (al1 (fit64 (by omega) (by omega))) (Done.pick [[bx (γ48 0) (#[.int .i64 r46.id, .int .i64 r46.each, .int .u64 r46.th, .int .u64 r46.tl, .int .u64 r46.tw]) 35], [bx (γ45 0) (#[.int .i64 x44.id, .int .i64 x44.each, .int .u64 x44.th, .int .u64 x44.tl, .int .u64 x44.tw]) 35], [(γ22 0, .map eD kD)], [bx (γ18 0) (#[.int .u64 ((topQ ((clipV (ts.take 17)).1)).1.hi), .int .u64 ((topQ ((clipV (ts.take 17)).1)).1.lo), .int .u64 ((topQ ((clipV (ts.take 17)).1)).1.w)]) 33], [bx (γ11 0) (#[.slice (some ⟨g42, 0, none⟩) n10 c10]) 24], [bx (γ8 0) (#[.int .u64 ((topQ (ts.take 17)).1.hi), .int .u64 ((topQ (ts.take 17)).1.lo), .int .u64 ((topQ (ts.take 17)).1.w)]) 33], [bx (γ6 0) (#[.slice q5 n5 c5]) 24], [bx (γ1 0) (#[.slice p n cap]) 24], [bx g42 cs42 35], Z10, Y5] [2, 3, 4, 5, 6, 7, 8, 9, 10] [0, 1] ((γ22 0, .map eD kD) :: bx (γ18 0) (#[.int .u64 ((topQ ((clipV (ts.take 17)).1)).1.hi), .int .u64 ((topQ ((clipV (ts.take 17)).1)).1.lo), .int .u64 ((topQ ((clipV (ts.take 17)).1)).1.w)]) 33 :: bx (γ11 0) (#[.slice (some ⟨g42, 0, none⟩) n10 c10]) 24 :: bx (γ8 0) (#[.int .u64 ((topQ (ts.take 17)).1.hi), .int .u64 ((topQ (ts.take 17)).1.lo), .int .u64 ((topQ (ts.take 17)).1.w)]) 33 :: bx (γ6 0) (#[.slice q5 n5 c5]) 24 :: bx (γ1 0) (#[.slice p n cap]) 24 :: ([bx g42 cs42 35] ++ (Z10 ++ (Y5 ++ [])))) (by kernel_rfl) rfl rfl ?_))))))
      exact done_round [3, 4, 6, 11, 72, 73, 74] (j + 1) (by kernel_rfl) rfl (by show j + 1 ≤ n10; omega) (by first | omega | (simp only; omega))
    ·
     refine qa [(0, .no)] [3, 4, 6, 11, 72, 73, 74] [(75, .bool false)] ([¬ (((j : Nat) : Int) < ((n10 : Nat) : Int))]) (al1 q39) (ds_ (sq_ (f_ (at_leave _ rfl (ds_ (sq_ ?_))))))
     have hag := hC.againV (take_U hU)
     refine ao_ (qo0 1 [(0, .go (owns 2 0 1))] [3, 6] [(132, .agg #[.slice q10 n10 c10])] (cP (fun v L' => ∃ q_ n_ c_ Y_ p_ m_ d_ Z_, v = .tuple #[.agg #[.slice q_ n_ c_], .slice p_ m_ d_, .int .i64 0] ∧ L' = List.take 6 ((γ22 0, .map eD kD) :: bx (γ18 0) (#[.int .u64 ((topQ ((clipV (ts.take 17)).1)).1.hi), .int .u64 ((topQ ((clipV (ts.take 17)).1)).1.lo), .int .u64 ((topQ ((clipV (ts.take 17)).1)).1.w)]) 33 :: bx (γ11 0) (#[.slice q10 n10 c10]) 24 :: bx (γ8 0) (#[.int .u64 ((topQ (ts.take 17)).1.hi), .int .u64 ((topQ (ts.take 17)).1.lo), .int .u64 ((topQ (ts.take 17)).1.w)]) 33 :: bx (γ6 0) (#[.slice q5 n5 c5]) 24 :: bx (γ1 0) (#[.slice p n cap]) 24 :: (Y10 ++ (Z10 ++ (Y5 ++ [])))) ++ (Y_ ++ (Z_ ++ List.drop 6 ((γ22 0, .map eD kD) :: bx (γ18 0) (#[.int .u64 ((topQ ((clipV (ts.take 17)).1)).1.hi), .int .u64 ((topQ ((clipV (ts.take 17)).1)).1.lo), .int .u64 ((topQ ((clipV (ts.take 17)).1)).1.w)]) 33 :: bx (γ11 0) (#[.slice q10 n10 c10]) 24 :: bx (γ8 0) (#[.int .u64 ((topQ (ts.take 17)).1.hi), .int .u64 ((topQ (ts.take 17)).1.lo), .int .u64 ((topQ (ts.take 17)).1.w)]) 33 :: bx (γ6 0) (#[.slice q5 n5 c5]) 24 :: bx (γ1 0) (#[.slice p n cap]) 24 :: (Y10 ++ (Z10 ++ (Y5 ++ [])))))) ∧ SlO 35 Y_ q_ n_ c_ ((clipV (ts.take 17)).1) ∧ SlO 3 Z_ p_ m_ d_ ([] : List Int)) Try.call29 (fun w hw => (clip_t q10 n10 c10 ((clipV (ts.take 17)).1) w (hO10.atN (A := [_, _, _, _, _, _]) hw) hO10.len (by omega) (clip_U (take_U hU))).mono fun e w' ⟨q_, n_, c_, Y_, p_, m_, d_, Z_, he, hO, hP, hb, hY⟩ => by rw [hag] at he hO hP; exact ⟨_, _, he, ⟨q_, n_, c_, Y_, p_, m_, d_, Z_, rfl, rfl, hO, hP⟩, hs_re (hw.join hb hY 6)⟩) ?_))
     rintro v67 L67 ⟨q67, n67, c67, Y67, p67, m67, d67, Z67, rfl, rfl, hO67, hP67⟩
     have hl67 := hO67.len
     have hm67 := hP67.len
     refine mo0 8 [(7, .go (owns 0 0 1))] [3, 6] (fun γ68 => [(8, .int .i64 0), (18, .pointer (some ⟨γ68 0, 0, none⟩)), (19, .slice p67 m67 d67)]) (fun γ68 L => bx (γ68 0) (#[.slice q67 n67 c67]) 24 :: L) (fun γ68 => on_ (ds_ (sq_ ?_)))
     have hz25 : m67 = 0 := hm67
     have hz26 : n10 = n5 := by rw [hl10, hl5, hC.eq, List.length_map]
     refine ao_ (qo 10 [(5, .yes), (8, .go (owns 0 0 1)), (9, .go (owns 3 0 1))] [3, 6] [(144, .bool true), (145, .agg #[.slice q67 n67 c67]), (146, .agg #[.slice q10 n10 c10])] ([((m67 : Nat) : Int) = (0 : Int)]) (al1 (by omega)) (cD (.bool true) Try.call17 (fun w hw => by have := same_t q67 n67 c67 ((clipV (ts.take 17)).1) q10 n10 c10 ((clipV (ts.take 17)).1) w (hO67.atN (A := [_, _, _, _, _, _, _]) hw) hO67.len (by omega) (hO10.at ((hw.tailN 7).sub ((List.sublist_append_right Z67 _).trans (List.sublist_append_right Y67 _)))) hO10.len (by omega); rw [decide_eq_true rfl] at this; exact this) (qo 11 [(14, .go (owns 3 0 1)), (17, .go (owns 5 0 1)), (19, .yes)] [] [(2, .bool true)] ([((n10 : Nat) : Int) = ((n5 : Nat) : Int)]) (al1 (by omega)) (on_ (ds_ (rt ([]) (.bool true) ?_))))))
     exact fun w' hw => ⟨rfl, hw.below⟩
  ·
   refine ao_ (qo 8 [(2, .eqs false), (6, .go (owns 2 0 3)), (7, .go (owns 0 0 3))] [3, 4, 6, 7] [(52, .bool false), (54, .bool true), (55, .agg #[.int .u64 ((topQ (ts.take 17)).1.hi), .int .u64 ((topQ (ts.take 17)).1.lo), .int .u64 ((topQ (ts.take 17)).1.w)]), (56, .agg #[.int .u64 ((topQ ((clipV (ts.take 17)).1)).1.hi), .int .u64 ((topQ ((clipV (ts.take 17)).1)).1.lo), .int .u64 ((topQ ((clipV (ts.take 17)).1)).1.w)])] ([EqRun Try.prog .neq 4 (.tmp 49) (.tmp 50) (.bool true) (.bool true) false]) (al1 (bool_ne true true)) (cD (.int .i64 (cmpF ((topQ (ts.take 17)).1) ((topQ ((clipV (ts.take 17)).1)).1))) Try.call13 (fun w hw => fcmp_t ((topQ (ts.take 17)).1) ((topQ ((clipV (ts.take 17)).1)).1) w (topQ_U (take_U hU)) (topQ_U (clip_U (take_U hU)))) ?_))
   have hcm := hC.cmp (take_U hU) q20
   refine qo 3 [(9, .no)] [3, 4, 6, 7] [(60, .bool false)] ([¬ (((cmpF ((topQ (ts.take 17)).1) ((topQ ((clipV (ts.take 17)).1)).1)) : Int) ≠ (0 : Int))]) (al1 (by omega)) (on_ (ds_ (f_ (at_skip (ds_ (sq_ (ma0 [] [3, 4, 6, 7] (fun γ73 => [(11, .map (some (γ73 0)))]) (fun γ73 L => (γ73 0, .map #[] 0) :: L) (fun γ73 => ds_ (sq_ (sq_ (qa0 [] [3, 4, 6, 11] [(62, .slice p10 m10 d10), (63, .int .i64 (m10 : Nat)), (64, .int .i64 0)] (ds_ (at_block (at_loop (α := Nat × Array MapEntry × Nat) [3, 4, 6, 11, 62, 63, 64] (fun ⟨j, eD, kD⟩ => [(3, .pointer (some ⟨γ6 0, 0, none⟩)), (4, .pointer (some ⟨γ8 0, 0, none⟩)), (6, .pointer (some ⟨γ11 0, 0, none⟩)), (11, .map (some (γ73 0))), (62, .slice p10 m10 d10), (63, .int .i64 (m10 : Nat)), (64, .int .i64 (j : Nat))]) (fun ⟨j, eD, kD⟩ => (γ73 0, .map eD kD) :: bx (γ18 0) (#[.int .u64 ((topQ ((clipV (ts.take 17)).1)).1.hi), .int .u64 ((topQ ((clipV (ts.take 17)).1)).1.lo), .int .u64 ((topQ ((clipV (ts.take 17)).1)).1.w)]) 33 :: bx (γ11 0) (#[.slice q10 n10 c10]) 24 :: bx (γ8 0) (#[.int .u64 ((topQ (ts.take 17)).1.hi), .int .u64 ((topQ (ts.take 17)).1.lo), .int .u64 ((topQ (ts.take 17)).1.w)]) 33 :: bx (γ6 0) (#[.slice q5 n5 c5]) 24 :: bx (γ1 0) (#[.slice p n cap]) 24 :: (Y10 ++ (Z10 ++ (Y5 ++ [])))) (fun ⟨j, eD, kD⟩ => j ≤ m10 ∧ MapIs .i64 Value.bool eD (metL (((clipV (ts.take 17)).2.1).take j))) (fun ⟨j, eD, kD⟩ => m10 - j) (0, #[], 0) (by kernel_rfl) rfl ⟨Nat.zero_le _, MapIs.nil⟩ ?_))))))))))))))
   rintro ⟨j, eD, kD⟩
   rintro ⟨hj, hmD⟩
   refine sq_ ?_
   by_cases q76 : ((j : Nat) : Int) < ((m10 : Nat) : Int)
   ·
    refine qa [(0, .yes)] [3, 4, 6, 11, 62, 63, 64] [(65, .bool true)] ([((j : Nat) : Int) < ((m10 : Nat) : Int)]) (al1 q76) (ds_ (sq_ (t_ (at_skip (ds_ (sq_ (at_block (sq_ (At.pick [[(γ73 0, .map eD kD)], [bx (γ18 0) (#[.int .u64 ((topQ ((clipV (ts.take 17)).1)).1.hi), .int .u64 ((topQ ((clipV (ts.take 17)).1)).1.lo), .int .u64 ((topQ ((clipV (ts.take 17)).1)).1.w)]) 33], [bx (γ11 0) (#[.slice q10 n10 c10]) 24], [bx (γ8 0) (#[.int .u64 ((topQ (ts.take 17)).1.hi), .int .u64 ((topQ (ts.take 17)).1.lo), .int .u64 ((topQ (ts.take 17)).1.w)]) 33], [bx (γ6 0) (#[.slice q5 n5 c5]) 24], [bx (γ1 0) (#[.slice p n cap]) 24], Y10, Z10, Y5] [0, 1, 2, 3, 4, 5, 7, 6, 8] [] ((γ73 0, .map eD kD) :: bx (γ18 0) (#[.int .u64 ((topQ ((clipV (ts.take 17)).1)).1.hi), .int .u64 ((topQ ((clipV (ts.take 17)).1)).1.lo), .int .u64 ((topQ ((clipV (ts.take 17)).1)).1.w)]) 33 :: bx (γ11 0) (#[.slice q10 n10 c10]) 24 :: bx (γ8 0) (#[.int .u64 ((topQ (ts.take 17)).1.hi), .int .u64 ((topQ (ts.take 17)).1.lo), .int .u64 ((topQ (ts.take 17)).1.w)]) 33 :: bx (γ6 0) (#[.slice q5 n5 c5]) 24 :: bx (γ1 0) (#[.slice p n cap]) 24 :: (Z10 ++ (Y10 ++ (Y5 ++ [])))) (by kernel_rfl) rfl rfl ?_)))))))))
    have hln79 := hP10.len
    obtain ⟨g79, cs79, rfl, rfl, hOw79⟩ := hP10.rowOf (i := j) (by omega)
    obtain ⟨x81, hx81⟩ := get_some (l := (clipV (ts.take 17)).2.1) (m := j) (by omega)
    refine qa [(0, .at g79 0 j), (1, .go (ownps 6 (0 + j * 1) [.int .i64 x81]))] [3, 4, 6, 11, 62, 63, 64] [(13, .int .i64 x81)] ([(some ⟨g79, 0, none⟩ : Option Addr) = some ⟨g79, 0, none⟩, (j : Nat) = ((j : Nat) : Int), j < m10] ++ (acellsP cs79 (0 + j * 1) [.int .i64 x81])) (alA (al2 rfl (al2 rfl (al1 (by omega)))) (rda_pre (hOw79.rdx hP10.len hx81) _ rfl)) (ds_ (ao_ (qo0 2 [] [3, 4, 6, 11, 62, 63, 64] [(68, .map (some (γ73 0))), (69, .int .i64 x81)] (ops_update (ik := .i64) (enc := Value.bool) (kk := x81) 0 true (Value.bool false) rfl (by kernel_rfl) (by kernel_rfl) (by kernel_rfl) (by kernel_rfl) (by kernel_rfl) (⟨3, 4, by kernel_rfl, by kernel_rfl, by kernel_rfl⟩ : mapB Try.prog 67 .i64 (Value.bool false)) rfl hmD (fun es84 ck84 hM84 => on_ (done_block (ds_ (qa [(0, .fit)] [3, 4, 6, 11, 62, 63] [(64, .int .i64 (j + 1 : Nat))] ([Fit .i64 ((j + 1 : Nat))]) (al1 (fit64 (by omega) (by omega))) (Done.pick [[(γ73 0, .map es84 ck84)], [bx (γ18 0) (#[.int .u64 ((topQ ((clipV (ts.take 17)).1)).1.hi), .int .u64 ((topQ ((clipV (ts.take 17)).1)).1.lo), .int .u64 ((topQ ((clipV (ts.take 17)).1)).1.w)]) 33], [bx (γ11 0) (#[.slice q10 n10 c10]) 24], [bx (γ8 0) (#[.int .u64 ((topQ (ts.take 17)).1.hi), .int .u64 ((topQ (ts.take 17)).1.lo), .int .u64 ((topQ (ts.take 17)).1.w)]) 33], [bx (γ6 0) (#[.slice q5 n5 c5]) 24], [bx (γ1 0) (#[.slice p n cap]) 24], [bx g79 cs79 3], Y10, Y5] [0, 1, 2, 3, 4, 5, 7, 6, 8] [] ((γ73 0, .map es84 ck84) :: bx (γ18 0) (#[.int .u64 ((topQ ((clipV (ts.take 17)).1)).1.hi), .int .u64 ((topQ ((clipV (ts.take 17)).1)).1.lo), .int .u64 ((topQ ((clipV (ts.take 17)).1)).1.w)]) 33 :: bx (γ11 0) (#[.slice q10 n10 c10]) 24 :: bx (γ8 0) (#[.int .u64 ((topQ (ts.take 17)).1.hi), .int .u64 ((topQ (ts.take 17)).1.lo), .int .u64 ((topQ (ts.take 17)).1.w)]) 33 :: bx (γ6 0) (#[.slice q5 n5 c5]) 24 :: bx (γ1 0) (#[.slice p n cap]) 24 :: (Y10 ++ ([bx g79 cs79 3] ++ (Y5 ++ [])))) (by kernel_rfl) rfl rfl ?_)))))))))
    exact dr [3, 4, 6, 11, 62, 63, 64] (j + 1, es84, ck84) ⟨by omega, by rw [metL_on hx81]; exact hM84⟩
   ·
    refine qa [(0, .no)] [3, 4, 6, 11, 62, 63, 64] [(65, .bool false)] ([¬ (((j : Nat) : Int) < ((m10 : Nat) : Int))]) (al1 q76) (ds_ (sq_ (f_ (at_leave _ rfl (ds_ (sq_ (sq_ ?_)))))))
    rw [metL_all (by omega)] at hmD
    refine qa0 [(1, .go (owns 2 0 1))] [3, 4, 6, 11] [(72, .slice q10 n10 c10), (73, .int .i64 (n10 : Nat)), (74, .int .i64 0)] (ds_ (at_block (at_loop (α := Nat) [3, 4, 6, 11, 72, 73, 74] (fun j => [(3, .pointer (some ⟨γ6 0, 0, none⟩)), (4, .pointer (some ⟨γ8 0, 0, none⟩)), (6, .pointer (some ⟨γ11 0, 0, none⟩)), (11, .map (some (γ73 0))), (72, .slice q10 n10 c10), (73, .int .i64 (n10 : Nat)), (74, .int .i64 (j : Nat))]) (fun j => (γ73 0, .map eD kD) :: bx (γ18 0) (#[.int .u64 ((topQ ((clipV (ts.take 17)).1)).1.hi), .int .u64 ((topQ ((clipV (ts.take 17)).1)).1.lo), .int .u64 ((topQ ((clipV (ts.take 17)).1)).1.w)]) 33 :: bx (γ11 0) (#[.slice q10 n10 c10]) 24 :: bx (γ8 0) (#[.int .u64 ((topQ (ts.take 17)).1.hi), .int .u64 ((topQ (ts.take 17)).1.lo), .int .u64 ((topQ (ts.take 17)).1.w)]) 33 :: bx (γ6 0) (#[.slice q5 n5 c5]) 24 :: bx (γ1 0) (#[.slice p n cap]) 24 :: (Y10 ++ (Z10 ++ (Y5 ++ [])))) (fun j => j ≤ n10) (fun j => n10 - j) 0 (by kernel_rfl) rfl (Nat.zero_le _) ?_)))
    rintro j
    intro hj
    refine sq_ ?_
    by_cases q90 : ((j : Nat) : Int) < ((n10 : Nat) : Int)
    ·
     refine qa [(0, .yes)] [3, 4, 6, 11, 72, 73, 74] [(75, .bool true)] ([((j : Nat) : Int) < ((n10 : Nat) : Int)]) (al1 q90) (ds_ (sq_ (t_ (at_skip (ds_ (sq_ (at_block (sq_ ?_))))))))
     have hln93 := hO10.len
     obtain ⟨g93, cs93, rfl, rfl, hOw93⟩ := hO10.rowOf (i := j) (by omega)
     obtain ⟨x95, hx95⟩ := get_some (l := (clipV (ts.take 17)).1) (m := j) (by omega)
     refine ma [(0, .at g93 0 j), (1, .go (ownps 6 (0 + j * 5) [.int .i64 x95.id, .int .i64 x95.each, .int .u64 x95.th, .int .u64 x95.tl, .int .u64 x95.tw])), (3, .go (owns 0 0 5))] [3, 4, 6, 11, 72, 73, 74] (fun γ96 => [(15, .pointer (some ⟨γ96 0, 0, none⟩))]) (fun γ96 L => bx (γ96 0) (#[.int .i64 x95.id, .int .i64 x95.each, .int .u64 x95.th, .int .u64 x95.tl, .int .u64 x95.tw]) 35 :: L) (fun γ96 => [(some ⟨g93, 0, none⟩ : Option Addr) = some ⟨g93, 0, none⟩, (j : Nat) = ((j : Nat) : Int), j < n10] ++ (acellsP cs93 (0 + j * 5) [.int .i64 x95.id, .int .i64 x95.each, .int .u64 x95.th, .int .u64 x95.tl, .int .u64 x95.tw])) (fun γ96 => (alA (al2 rfl (al2 rfl (al1 (by omega)))) (rda_pre (hOw93.rdx hO10.len hx95) _ rfl))) (fun γ96 => ds_ (sq_ ?_))
     obtain ⟨r97, hA⟩ := hC.at (take_U hU) hx95
     have hxi := hA.xU.i0
     have hxj := hA.xU.i1
     refine ao_ (qo0 3 [(0, .go (owns 5 0 1)), (2, .go (owns 0 0 1))] [3, 4, 6, 11, 15, 72, 73, 74] [(79, .agg #[.slice q5 n5 c5]), (81, .int .i64 x95.id)] (cD (.tuple #[.agg #[.int .i64 r97.id, .int .i64 r97.each, .int .u64 r97.th, .int .u64 r97.tl, .int .u64 r97.tw], .bool true]) Try.call11 (fun w hw => by have := getq_t q5 n5 c5 (ts.take 17) x95.id w (hO5.atN (A := (_ :: _ :: _ :: _ :: _ :: _ :: _ :: _ :: Z10)) hw) hO5.len (by omega) (take_U hU) (by omega) (by omega); rw [hA.get] at this; exact this) (mo0 6 [(8, .go (owns 0 0 5))] [3, 4, 6, 11, 15, 72, 73, 74] (fun γ99 => [(16, .pointer (some ⟨γ99 0, 0, none⟩)), (17, .bool true)]) (fun γ99 L => bx (γ99 0) (#[.int .i64 r97.id, .int .i64 r97.each, .int .u64 r97.th, .int .u64 r97.tl, .int .u64 r97.tw]) 35 :: L) (fun γ99 => on_ (ds_ (sq_ ?_))))))
     rcases q100 : behV r97.t ((topQ (ts.take 17)).1) 268435456 with _ | _
     ·
      refine at_calm rfl (by kernel_rfl) (by kernel_rfl) ?_
      refine cm 6 [(4, .go (owns 1 2 3)), (5, .go (owns 5 0 3))] [3, 4, 6, 11, 15, 16, 72, 73, 74] [(87, .bool false), (89, .agg #[.int .u64 x95.th, .int .u64 x95.tl, .int .u64 x95.tw]), (90, .agg #[.int .u64 ((topQ (ts.take 17)).1.hi), .int .u64 ((topQ (ts.take 17)).1.lo), .int .u64 ((topQ (ts.take 17)).1.w)])] ([]) (by kernel_rfl) rfl al0 ?_
      refine cK (.bool false) Try.call30 (fun w hw => by have := fbeh_t x95.t ((topQ (ts.take 17)).1) 268435456 w hA.xU.t (topQ_U (take_U hU)) (by decide) (by decide); rw [hA.beh] at this; exact this) ?_
      refine cm 5 [(11, .go (owns 1 0 1))] [3, 4, 6, 11, 15, 16, 72, 73, 74] [(93, .bool false), (94, .map (some (γ73 0))), (96, .int .i64 x95.id)] ([]) (by kernel_rfl) rfl al0 ?_
      refine calm_lookup (ik := .i64) (enc := Value.bool) (kk := x95.id) 2 (Value.bool false) (.bool false) rfl (by kernel_rfl) (by kernel_rfl) (by kernel_rfl) (by kernel_rfl) (⟨3, 4, by kernel_rfl, by kernel_rfl, by kernel_rfl⟩ : mapB Try.prog 67 .i64 (Value.bool false)) rfl hmD ((map_getD _ _ _).trans (congrArg Value.bool ((metL_get.trans hA.map).trans q100))) ?_
      refine cm 3 [(14, .go (owns 0 2 3)), (15, .go (owns 5 0 3))] [3, 4, 6, 11, 15, 16, 72, 73, 74, 93, 97] [(99, .agg #[.int .u64 r97.th, .int .u64 r97.tl, .int .u64 r97.tw]), (100, .agg #[.int .u64 ((topQ (ts.take 17)).1.hi), .int .u64 ((topQ (ts.take 17)).1.lo), .int .u64 ((topQ (ts.take 17)).1.w)])] ([]) (by kernel_rfl) rfl al0 ?_
      refine cK (.bool false) Try.call30 (fun w hw => by have := fbeh_t r97.t ((topQ (ts.take 17)).1) 268435456 w hA.rU.t (topQ_U (take_U hU)) (by decide) (by decide); rw [q100] at this; exact this) ?_
      refine cm 6 [(17, .eqs false), (22, .go (owns 1 0 1))] [3, 4, 6, 11, 15, 16, 72, 73, 74] [(104, .bool false), (105, .map (some (γ73 0))), (107, .int .i64 x95.id)] ([EqRun Try.prog .neq 4 (.tmp 97) (.tmp 101) (.bool false) (.bool false) false]) (by kernel_rfl) rfl (al1 (bool_ne false false)) ?_
      refine calm_lookup (ik := .i64) (enc := Value.bool) (kk := x95.id) 2 (Value.bool false) (.bool false) rfl (by kernel_rfl) (by kernel_rfl) (by kernel_rfl) (by kernel_rfl) (⟨3, 4, by kernel_rfl, by kernel_rfl, by kernel_rfl⟩ : mapB Try.prog 67 .i64 (Value.bool false)) rfl hmD ((map_getD _ _ _).trans (congrArg Value.bool ((metL_get.trans hA.map).trans q100))) ?_
      refine cm 11 [(26, .go (owns 1 0 5)), (27, .go (owns 0 0 5)), (28, .eqs false), (34, .go (owns 1 0 1))] [3, 4, 6, 11, 15, 16, 72, 73, 74] [(116, .bool false), (117, .map (some (γ73 0))), (119, .int .i64 x95.id)] ([EqRun Try.prog .neq 35 (.tmp 111) (.tmp 112) (.agg #[.int .i64 x95.id, .int .i64 x95.each, .int .u64 x95.th, .int .u64 x95.tl, .int .u64 x95.tw]) (.agg #[.int .i64 r97.id, .int .i64 r97.each, .int .u64 r97.th, .int .u64 r97.tl, .int .u64 r97.tw]) false]) (by kernel_rfl) rfl (al1 (rn_ne_t (a := x95) (b := r97) (hA.same q100))) ?_
      refine calm_lookup (ik := .i64) (enc := Value.bool) (kk := x95.id) 2 (Value.bool false) (.bool false) rfl (by kernel_rfl) (by kernel_rfl) (by kernel_rfl) (by kernel_rfl) (⟨3, 4, by kernel_rfl, by kernel_rfl, by kernel_rfl⟩ : mapB Try.prog 67 .i64 (Value.bool false)) rfl hmD ((map_getD _ _ _).trans (congrArg Value.bool ((metL_get.trans hA.map).trans q100))) ?_
      refine cm 9 [] [3, 4, 6, 11, 72, 73, 74] [(129, .bool false)] ([]) (by kernel_rfl) rfl al0 ?_
      refine calm_nil' ?_
      refine ds_ (f_ (at_skip (done_block (ds_ (qa [(0, .fit)] [3, 4, 6, 11, 72, 73] [(74, .int .i64 (j + 1 : Nat))] ([Fit .i64 ((j + 1 : Nat))]) (al1 (fit64 (by omega) (by omega))) (Done.pick [[bx (γ99 0) (#[.int .i64 r97.id, .int .i64 r97.each, .int .u64 r97.th, .int .u64 r97.tl, .int .u64 r97.tw]) 35], [bx (γ96 0) (#[.int .i64 x95.id, .int .i64 x95.each, .int .u64 x95.th, .int .u64 x95.tl, .int .u64 x95.tw]) 35], [(γ73 0, .map eD kD)], [bx (γ18 0) (#[.int .u64 ((topQ ((clipV (ts.take 17)).1)).1.hi), .int .u64 ((topQ ((clipV (ts.take 17)).1)).1.lo), .int .u64 ((topQ ((clipV (ts.take 17)).1)).1.w)]) 33], [bx (γ11 0) (#[.slice (some ⟨g93, 0, none⟩) n10 c10]) 24], [bx (γ8 0) (#[.int .u64 ((topQ (ts.take 17)).1.hi), .int .u64 ((topQ (ts.take 17)).1.lo), .int .u64 ((topQ (ts.take 17)).1.w)]) 33], [bx (γ6 0) (#[.slice q5 n5 c5]) 24], [bx (γ1 0) (#[.slice p n cap]) 24], [bx g93 cs93 35], Z10, Y5] [2, 3, 4, 5, 6, 7, 8, 9, 10] [0, 1] ((γ73 0, .map eD kD) :: bx (γ18 0) (#[.int .u64 ((topQ ((clipV (ts.take 17)).1)).1.hi), .int .u64 ((topQ ((clipV (ts.take 17)).1)).1.lo), .int .u64 ((topQ ((clipV (ts.take 17)).1)).1.w)]) 33 :: bx (γ11 0) (#[.slice (some ⟨g93, 0, none⟩) n10 c10]) 24 :: bx (γ8 0) (#[.int .u64 ((topQ (ts.take 17)).1.hi), .int .u64 ((topQ (ts.take 17)).1.lo), .int .u64 ((topQ (ts.take 17)).1.w)]) 33 :: bx (γ6 0) (#[.slice q5 n5 c5]) 24 :: bx (γ1 0) (#[.slice p n cap]) 24 :: ([bx g93 cs93 35] ++ (Z10 ++ (Y5 ++ [])))) (by kernel_rfl) rfl rfl ?_))))))
      exact done_round [3, 4, 6, 11, 72, 73, 74] (j + 1) (by kernel_rfl) rfl (by show j + 1 ≤ n10; omega) (by first | omega | (simp only; omega))
     ·
      refine at_calm rfl (by kernel_rfl) (by kernel_rfl) ?_
      refine cm 6 [(4, .go (owns 1 2 3)), (5, .go (owns 5 0 3))] [3, 4, 6, 11, 15, 16, 72, 73, 74] [(87, .bool false), (89, .agg #[.int .u64 x95.th, .int .u64 x95.tl, .int .u64 x95.tw]), (90, .agg #[.int .u64 ((topQ (ts.take 17)).1.hi), .int .u64 ((topQ (ts.take 17)).1.lo), .int .u64 ((topQ (ts.take 17)).1.w)])] ([]) (by kernel_rfl) rfl al0 ?_
      refine cK (.bool false) Try.call30 (fun w hw => by have := fbeh_t x95.t ((topQ (ts.take 17)).1) 268435456 w hA.xU.t (topQ_U (take_U hU)) (by decide) (by decide); rw [hA.beh] at this; exact this) ?_
      refine cm 5 [(11, .go (owns 1 0 1))] [3, 4, 6, 11, 15, 16, 72, 73, 74] [(93, .bool false), (94, .map (some (γ73 0))), (96, .int .i64 x95.id)] ([]) (by kernel_rfl) rfl al0 ?_
      refine calm_lookup (ik := .i64) (enc := Value.bool) (kk := x95.id) 2 (Value.bool false) (.bool true) rfl (by kernel_rfl) (by kernel_rfl) (by kernel_rfl) (by kernel_rfl) (⟨3, 4, by kernel_rfl, by kernel_rfl, by kernel_rfl⟩ : mapB Try.prog 67 .i64 (Value.bool false)) rfl hmD ((map_getD _ _ _).trans (congrArg Value.bool ((metL_get.trans hA.map).trans q100))) ?_
      refine cm 3 [(14, .go (owns 0 2 3)), (15, .go (owns 5 0 3))] [3, 4, 6, 11, 15, 16, 72, 73, 74, 93, 97] [(99, .agg #[.int .u64 r97.th, .int .u64 r97.tl, .int .u64 r97.tw]), (100, .agg #[.int .u64 ((topQ (ts.take 17)).1.hi), .int .u64 ((topQ (ts.take 17)).1.lo), .int .u64 ((topQ (ts.take 17)).1.w)])] ([]) (by kernel_rfl) rfl al0 ?_
      refine cK (.bool true) Try.call30 (fun w hw => by have := fbeh_t r97.t ((topQ (ts.take 17)).1) 268435456 w hA.rU.t (topQ_U (take_U hU)) (by decide) (by decide); rw [q100] at this; exact this) ?_
      refine cm 6 [(17, .eqs false), (22, .go (owns 1 0 1))] [3, 4, 6, 11, 15, 16, 72, 73, 74] [(104, .bool false), (105, .map (some (γ73 0))), (107, .int .i64 x95.id)] ([EqRun Try.prog .neq 4 (.tmp 97) (.tmp 101) (.bool true) (.bool true) false]) (by kernel_rfl) rfl (al1 (bool_ne true true)) ?_
      refine calm_lookup (ik := .i64) (enc := Value.bool) (kk := x95.id) 2 (Value.bool false) (.bool true) rfl (by kernel_rfl) (by kernel_rfl) (by kernel_rfl) (by kernel_rfl) (⟨3, 4, by kernel_rfl, by kernel_rfl, by kernel_rfl⟩ : mapB Try.prog 67 .i64 (Value.bool false)) rfl hmD ((map_getD _ _ _).trans (congrArg Value.bool ((metL_get.trans hA.map).trans q100))) ?_
      refine cm 11 [(34, .go (owns 1 0 1))] [3, 4, 6, 11, 15, 16, 72, 73, 74] [(116, .bool false), (117, .map (some (γ73 0))), (119, .int .i64 x95.id)] ([]) (by kernel_rfl) rfl al0 ?_
      refine calm_lookup (ik := .i64) (enc := Value.bool) (kk := x95.id) 2 (Value.bool false) (.bool true) rfl (by kernel_rfl) (by kernel_rfl) (by kernel_rfl) (by kernel_rfl) (⟨3, 4, by kernel_rfl, by kernel_rfl, by kernel_rfl⟩ : mapB Try.prog 67 .i64 (Value.bool false)) rfl hmD ((map_getD _ _ _).trans (congrArg Value.bool ((metL_get.trans hA.map).trans q100))) ?_
      refine cm 5 [(38, .go (owns 1 2 3)), (40, .go (owns 0 2 3))] [3, 4, 6, 11, 72, 73, 74, 116] [(121, .bool true), (123, .agg #[.int .u64 x95.th, .int .u64 x95.tl, .int .u64 x95.tw]), (125, .agg #[.int .u64 r97.th, .int .u64 r97.tl, .int .u64 r97.tw])] ([]) (by kernel_rfl) rfl al0 ?_
      refine cK (.int .i64 (cmpF x95.t r97.t)) Try.call13 (fun w hw => fcmp_t x95.t r97.t w hA.xU.t hA.rU.t) ?_
      refine cm 3 [(42, .no)] [3, 4, 6, 11, 72, 73, 74] [(129, .bool false)] ([¬ (((cmpF x95.t r97.t) : Int) ≤ (0 : Int))]) (by kernel_rfl) rfl (al1 (by have h9 := hA.up q100; omega)) ?_
      refine calm_nil' ?_
      refine ds_ (f_ (at_skip (done_block (ds_ (qa [(0, .fit)] [3, 4, 6, 11, 72, 73] [(74, .int .i64 (j + 1 : Nat))] ([Fit .i64 ((j + 1 : Nat))]) (al1 (fit64 (by omega) (by omega))) (Done.pick [[bx (γ99 0) (#[.int .i64 r97.id, .int .i64 r97.each, .int .u64 r97.th, .int .u64 r97.tl, .int .u64 r97.tw]) 35], [bx (γ96 0) (#[.int .i64 x95.id, .int .i64 x95.each, .int .u64 x95.th, .int .u64 x95.tl, .int .u64 x95.tw]) 35], [(γ73 0, .map eD kD)], [bx (γ18 0) (#[.int .u64 ((topQ ((clipV (ts.take 17)).1)).1.hi), .int .u64 ((topQ ((clipV (ts.take 17)).1)).1.lo), .int .u64 ((topQ ((clipV (ts.take 17)).1)).1.w)]) 33], [bx (γ11 0) (#[.slice (some ⟨g93, 0, none⟩) n10 c10]) 24], [bx (γ8 0) (#[.int .u64 ((topQ (ts.take 17)).1.hi), .int .u64 ((topQ (ts.take 17)).1.lo), .int .u64 ((topQ (ts.take 17)).1.w)]) 33], [bx (γ6 0) (#[.slice q5 n5 c5]) 24], [bx (γ1 0) (#[.slice p n cap]) 24], [bx g93 cs93 35], Z10, Y5] [2, 3, 4, 5, 6, 7, 8, 9, 10] [0, 1] ((γ73 0, .map eD kD) :: bx (γ18 0) (#[.int .u64 ((topQ ((clipV (ts.take 17)).1)).1.hi), .int .u64 ((topQ ((clipV (ts.take 17)).1)).1.lo), .int .u64 ((topQ ((clipV (ts.take 17)).1)).1.w)]) 33 :: bx (γ11 0) (#[.slice (some ⟨g93, 0, none⟩) n10 c10]) 24 :: bx (γ8 0) (#[.int .u64 ((topQ (ts.take 17)).1.hi), .int .u64 ((topQ (ts.take 17)).1.lo), .int .u64 ((topQ (ts.take 17)).1.w)]) 33 :: bx (γ6 0) (#[.slice q5 n5 c5]) 24 :: bx (γ1 0) (#[.slice p n cap]) 24 :: ([bx g93 cs93 35] ++ (Z10 ++ (Y5 ++ [])))) (by kernel_rfl) rfl rfl ?_))))))
      exact done_round [3, 4, 6, 11, 72, 73, 74] (j + 1) (by kernel_rfl) rfl (by show j + 1 ≤ n10; omega) (by first | omega | (simp only; omega))
    ·
     refine qa [(0, .no)] [3, 4, 6, 11, 72, 73, 74] [(75, .bool false)] ([¬ (((j : Nat) : Int) < ((n10 : Nat) : Int))]) (al1 q90) (ds_ (sq_ (f_ (at_leave _ rfl (ds_ (sq_ ?_))))))
     have hag := hC.againV (take_U hU)
     refine ao_ (qo0 1 [(0, .go (owns 2 0 1))] [3, 6] [(132, .agg #[.slice q10 n10 c10])] (cP (fun v L' => ∃ q_ n_ c_ Y_ p_ m_ d_ Z_, v = .tuple #[.agg #[.slice q_ n_ c_], .slice p_ m_ d_, .int .i64 0] ∧ L' = List.take 6 ((γ73 0, .map eD kD) :: bx (γ18 0) (#[.int .u64 ((topQ ((clipV (ts.take 17)).1)).1.hi), .int .u64 ((topQ ((clipV (ts.take 17)).1)).1.lo), .int .u64 ((topQ ((clipV (ts.take 17)).1)).1.w)]) 33 :: bx (γ11 0) (#[.slice q10 n10 c10]) 24 :: bx (γ8 0) (#[.int .u64 ((topQ (ts.take 17)).1.hi), .int .u64 ((topQ (ts.take 17)).1.lo), .int .u64 ((topQ (ts.take 17)).1.w)]) 33 :: bx (γ6 0) (#[.slice q5 n5 c5]) 24 :: bx (γ1 0) (#[.slice p n cap]) 24 :: (Y10 ++ (Z10 ++ (Y5 ++ [])))) ++ (Y_ ++ (Z_ ++ List.drop 6 ((γ73 0, .map eD kD) :: bx (γ18 0) (#[.int .u64 ((topQ ((clipV (ts.take 17)).1)).1.hi), .int .u64 ((topQ ((clipV (ts.take 17)).1)).1.lo), .int .u64 ((topQ ((clipV (ts.take 17)).1)).1.w)]) 33 :: bx (γ11 0) (#[.slice q10 n10 c10]) 24 :: bx (γ8 0) (#[.int .u64 ((topQ (ts.take 17)).1.hi), .int .u64 ((topQ (ts.take 17)).1.lo), .int .u64 ((topQ (ts.take 17)).1.w)]) 33 :: bx (γ6 0) (#[.slice q5 n5 c5]) 24 :: bx (γ1 0) (#[.slice p n cap]) 24 :: (Y10 ++ (Z10 ++ (Y5 ++ [])))))) ∧ SlO 35 Y_ q_ n_ c_ ((clipV (ts.take 17)).1) ∧ SlO 3 Z_ p_ m_ d_ ([] : List Int)) Try.call29 (fun w hw => (clip_t q10 n10 c10 ((clipV (ts.take 17)).1) w (hO10.atN (A := [_, _, _, _, _, _]) hw) hO10.len (by omega) (clip_U (take_U hU))).mono fun e w' ⟨q_, n_, c_, Y_, p_, m_, d_, Z_, he, hO, hP, hb, hY⟩ => by rw [hag] at he hO hP; exact ⟨_, _, he, ⟨q_, n_, c_, Y_, p_, m_, d_, Z_, rfl, rfl, hO, hP⟩, hs_re (hw.join hb hY 6)⟩) ?_))
     rintro v118 L118 ⟨q118, n118, c118, Y118, p118, m118, d118, Z118, rfl, rfl, hO118, hP118⟩
     have hl118 := hO118.len
     have hm118 := hP118.len
     refine mo0 8 [(7, .go (owns 0 0 1))] [3, 6] (fun γ119 => [(8, .int .i64 0), (18, .pointer (some ⟨γ119 0, 0, none⟩)), (19, .slice p118 m118 d118)]) (fun γ119 L => bx (γ119 0) (#[.slice q118 n118 c118]) 24 :: L) (fun γ119 => on_ (ds_ (sq_ ?_)))
     have hz25 : m118 = 0 := hm118
     have hz26 : n10 = n5 := by rw [hl10, hl5, hC.eq, List.length_map]
     refine ao_ (qo 10 [(5, .yes), (8, .go (owns 0 0 1)), (9, .go (owns 3 0 1))] [3, 6] [(144, .bool true), (145, .agg #[.slice q118 n118 c118]), (146, .agg #[.slice q10 n10 c10])] ([((m118 : Nat) : Int) = (0 : Int)]) (al1 (by omega)) (cD (.bool true) Try.call17 (fun w hw => by have := same_t q118 n118 c118 ((clipV (ts.take 17)).1) q10 n10 c10 ((clipV (ts.take 17)).1) w (hO118.atN (A := [_, _, _, _, _, _, _]) hw) hO118.len (by omega) (hO10.at ((hw.tailN 7).sub ((List.sublist_append_right Z118 _).trans (List.sublist_append_right Y118 _)))) hO10.len (by omega); rw [decide_eq_true rfl] at this; exact this) (qo 11 [(14, .go (owns 3 0 1)), (17, .go (owns 5 0 1)), (19, .yes)] [] [(2, .bool true)] ([((n10 : Nat) : Int) = ((n5 : Nat) : Int)]) (al1 (by omega)) (on_ (ds_ (rt ([]) (.bool true) ?_))))))
     exact fun w' hw => ⟨rfl, hw.below⟩
end Go.Proofs.Ytnhkecfapohlgaa

/-! The walker: what a row's inputs are: slices and structs, opened into lists. -/
namespace Go.Proofs.Ytnhkecfapohlgaa
open Go Go.RowKit

section
variable {H : Type} {enc : TypeId × Value → H} {P : Program} {w : World} {base : Nat} {spare : Nat → Bool} {held : Bool}
theorem spot_none {a : Addr} (h : a.spot = none) : a = ⟨a.block, a.off, none⟩ := by
  cases a
  simp at h
  simp [h]
theorem trod_sv {α : Type} [Enc α] {t e : TypeId} {fuel : Nat} {cs : List Value} {x : DataW H × List MemPlace} {Good : α → Prop} (ht : P.underlying t = some (.slice e)) (hc : P.cellsOf e = Enc.k α)
    (hopen : ∀ (fuel : Nat) (cs : List Value) (x : DataW H × List MemPlace), DataW.trod enc P w base spare held fuel e cs = some x → ∃ a : α, cs = Enc.enc a ∧ Good a) (h : DataW.trod enc P w base spare held fuel t cs = some x) :
    ∃ (p : Option Addr) (n cap : Nat) (l : List α), cs = [.slice p n cap] ∧ Sv w p l ∧ n = l.length ∧ n ≤ cap ∧ cap ≤ maxLen ∧ ∀ y ∈ l, Good y := by
  rcases Deep.open_slice ht h with ⟨hcs, _⟩ | ⟨a, len, cap, m, n', D, Pl, hcs, _, hle, hmx, hm, _, hi⟩
  · exact ⟨none, 0, 0, [], hcs, Sv.nil, rfl, Nat.le_refl _, Nat.zero_le _, fun y hy => by cases hy⟩
  · have key : ∀ i, i < len → ∃ y : α, w.cells? base (a.add (i * Enc.k α)) (Enc.k α) = some (Enc.enc y) ∧ Good y := fun i hin => by
      have him : i < m := by rw [hm]; split <;> omega
      obtain ⟨cs', h1, h2⟩ := hi i him
      obtain ⟨y, rfl, hy⟩ := hopen _ _ _ h2
      rw [hc] at h1
      exact ⟨y, h1, hy⟩
    rcases Nat.eq_zero_or_pos len with h0 | h0
    · subst h0
      exact ⟨some a, 0, cap, [], hcs, Sv.nil, rfl, hle, hmx, fun y hy => by cases hy⟩
    · obtain ⟨y0, hy0, _⟩ := key 0 h0
      haveI : Inhabited α := ⟨y0⟩
      obtain ⟨f, hf⟩ := Deep.choose_lt key
      obtain ⟨_, _, hcell⟩ := World.cells?_some hy0
      have h00 := hcell 0 Enc.pos
      have hlen0 : 0 < (Enc.enc y0).length := by rw [Enc.len]; exact Enc.pos
      rw [List.getElem?_eq_getElem hlen0, Nat.zero_mul, show (a.add 0).add 0 = a by simp [Addr.add]] at h00
      have hsp := spot_none (World.cell?_spot h00)
      refine ⟨some a, len, cap, (List.range len).map f, hcs, ⟨fun _ => ⟨a.block, a.off, by rw [← hsp]⟩, fun b o hbo i hil => ?_⟩, by simp, hle, hmx, fun y hy => ?_⟩
      · have hil' : i < len := by simpa using hil
        obtain ⟨_, _, hc2⟩ := World.cells?_some (hf i hil').1
        have ha : a = ⟨b, o, none⟩ := by simpa using hbo
        subst ha
        intro j v hj
        have hjk : j < Enc.k α := by rw [← Enc.len (f i)]; have := (List.getElem?_eq_some_iff.1 hj).1; simpa using this
        have h3 := hc2 j hjk
        rw [Deep.add_add] at h3
        have h4 : (Enc.enc (f i))[j]? = some v := by simpa using hj
        rw [h4] at h3
        have h5 : (⟨b, o, none⟩ : Addr).add (i * Enc.k α + j) = ⟨b, o + i * Enc.k α + j, none⟩ := by
          unfold Addr.add; split <;> simp_all <;> omega
        rw [h5] at h3
        exact h3
      · obtain ⟨i, hir, rfl⟩ := List.mem_map.1 hy
        exact (hf i (List.mem_range.1 hir)).2
theorem list2' {α : Type} {cs : List α} (h : cs.length = 2) : ∃ c0 c1, cs = [c0, c1] := by
  match cs, h with
  | [a, b], _ => exact ⟨a, b, rfl⟩
end
end Go.Proofs.Ytnhkecfapohlgaa

/-! Chapter 10: what the rows' inputs are. -/
namespace Go.Proofs.Ytnhkecfapohlgaa
open Go Go.RowKit Go.ChangeShapes Go.WideShapes

section
variable {H : Type} {enc : TypeId × Value → H} {w : World} {base : Nat} {spare : Nat → Bool} {held : Bool}
theorem cInt0 : Try.prog.cellsOf 3 = 1 := by kernel_rfl
theorem cU64 : Try.prog.cellsOf 25 = 1 := by kernel_rfl
theorem cWid : Try.prog.cellsOf 31 = 2 := by kernel_rfl
theorem cFra : Try.prog.cellsOf 33 = 3 := by kernel_rfl
theorem cRun : Try.prog.cellsOf 35 = 5 := by kernel_rfl
theorem cRuns : Try.prog.cellsOf 22 = 1 := by kernel_rfl
theorem cQue : Try.prog.cellsOf 24 = 1 := by kernel_rfl
theorem list3u {α : Type} {cs : List α} (h : cs.length = 3) : ∃ a b c, cs = [a, b, c] := by
  match cs, h with
  | [a, b, c], _ => exact ⟨a, b, c, rfl⟩
theorem list5u {α : Type} {cs : List α} (h : cs.length = 5) : ∃ a b c d e, cs = [a, b, c, d, e] := by
  match cs, h with
  | [a, b, c, d, e], _ => exact ⟨a, b, c, d, e, rfl⟩
theorem u64_wf {n : Int} (h : (Lit.int .u64 n).wf = true) : 0 ≤ n ∧ n < 18446744073709551616 := by
  simp only [Lit.wf, Bool.and_eq_true, decide_eq_true_eq] at h
  have h1 : (0 : Int) ≤ n := h.1
  have h2 : n ≤ 18446744073709551615 := h.2
  omega
theorem i64_wf {n : Int} (h : (Lit.int .i64 n).wf = true) : -9223372036854775808 ≤ n ∧ n ≤ 9223372036854775807 := by
  simp only [Lit.wf, Bool.and_eq_true, decide_eq_true_eq] at h
  exact ⟨h.1, h.2⟩
set_option maxRecDepth 100000 in
theorem wide_open {fuel : Nat} {cs : List Value} {x : DataW H × List MemPlace} (h : DataW.trod enc Try.prog w base spare held fuel 31 cs = some x) : ∃ a b : Int, cs = [.int .u64 a, .int .u64 b] ∧ (0 ≤ a ∧ a < 18446744073709551616) ∧ (0 ≤ b ∧ b < 18446744073709551616) := by
  obtain ⟨xs, n, _, rfl, hl, hlen, hf⟩ := DataW.trod_struct Try.underlying31 h
  rw [cWid] at hl
  obtain ⟨c0, c1, rfl⟩ := list2' hl
  obtain ⟨y0, y1, rfl⟩ := list2' hlen
  have h0 : DataW.trod enc Try.prog w base spare held n 25 (([c0, c1].drop 0).take (Try.prog.cellsOf 25)) = some y0 := hf 0 _ rfl
  have h1 : DataW.trod enc Try.prog w base spare held n 25 (([c0, c1].drop 1).take (Try.prog.cellsOf 25)) = some y1 := hf 1 _ rfl
  clear hf hl hlen h
  rw [cU64] at h0 h1
  simp only [List.drop_zero, List.take_succ_cons, List.take_zero, List.drop_succ_cons] at h0 h1
  obtain ⟨a, e0, _, f0⟩ := DataW.trod_int Try.underlying25 h0
  obtain ⟨b, e1, _, f1⟩ := DataW.trod_int Try.underlying25 h1
  simp only [List.cons.injEq, and_true] at e0 e1
  subst e0; subst e1
  exact ⟨a, b, rfl, u64_wf f0, u64_wf f1⟩
set_option maxRecDepth 100000 in
theorem fq_open {fuel : Nat} {cs : List Value} {x : DataW H × List MemPlace} (h : DataW.trod enc Try.prog w base spare held fuel 33 cs = some x) : ∃ a : Fq, cs = Enc.enc a ∧ a.U := by
  obtain ⟨xs, n, _, rfl, hl, hlen, hf⟩ := DataW.trod_struct Try.underlying33 h
  rw [cFra] at hl
  obtain ⟨c0, c1, c2, rfl⟩ := list3u hl
  obtain ⟨y0, y1, rfl⟩ := list2' hlen
  have h0 : DataW.trod enc Try.prog w base spare held n 31 (([c0, c1, c2].drop 0).take (Try.prog.cellsOf 31)) = some y0 := hf 0 _ rfl
  have h1 : DataW.trod enc Try.prog w base spare held n 25 (([c0, c1, c2].drop 2).take (Try.prog.cellsOf 25)) = some y1 := hf 1 _ rfl
  clear hf hl hlen h
  rw [cWid] at h0
  rw [cU64] at h1
  simp only [List.drop_zero, List.take_succ_cons, List.take_zero, List.drop_succ_cons] at h0 h1
  obtain ⟨a, b, e0, fa, fb⟩ := wide_open h0
  obtain ⟨c, e1, _, f1⟩ := DataW.trod_int Try.underlying25 h1
  simp only [List.cons.injEq, and_true] at e0 e1
  obtain ⟨rfl, rfl⟩ := e0
  subst e1
  have fc := u64_wf f1
  exact ⟨⟨a, b, c⟩, rfl, ⟨fa.1, fa.2, fb.1, fb.2, fc.1, fc.2⟩⟩
set_option maxRecDepth 100000 in
theorem rn_open {fuel : Nat} {cs : List Value} {x : DataW H × List MemPlace} (h : DataW.trod enc Try.prog w base spare held fuel 35 cs = some x) : ∃ a : Rn, cs = Enc.enc a ∧ a.U := by
  obtain ⟨xs, n, _, rfl, hl, hlen, hf⟩ := DataW.trod_struct Try.underlying35 h
  rw [cRun] at hl
  obtain ⟨c0, c1, c2, c3, c4, rfl⟩ := list5u hl
  obtain ⟨y0, y1, y2, rfl⟩ := list3u hlen
  have h0 : DataW.trod enc Try.prog w base spare held n 3 (([c0, c1, c2, c3, c4].drop 0).take (Try.prog.cellsOf 3)) = some y0 := hf 0 _ rfl
  have h1 : DataW.trod enc Try.prog w base spare held n 3 (([c0, c1, c2, c3, c4].drop 1).take (Try.prog.cellsOf 3)) = some y1 := hf 1 _ rfl
  have h2 : DataW.trod enc Try.prog w base spare held n 33 (([c0, c1, c2, c3, c4].drop 2).take (Try.prog.cellsOf 33)) = some y2 := hf 2 _ rfl
  clear hf hl hlen h
  rw [cInt0] at h0 h1
  rw [cFra] at h2
  simp only [List.drop_zero, List.take_succ_cons, List.take_zero, List.drop_succ_cons] at h0 h1 h2
  obtain ⟨a, e0, _, f0⟩ := DataW.trod_int Try.underlying3 h0
  obtain ⟨b, e1, _, f1⟩ := DataW.trod_int Try.underlying3 h1
  obtain ⟨t, e2, ht⟩ := fq_open h2
  simp only [List.cons.injEq, and_true] at e0 e1
  subst e0; subst e1
  have e2' : [c2, c3, c4] = [.int .u64 t.hi, .int .u64 t.lo, .int .u64 t.w] := e2
  simp only [List.cons.injEq, and_true] at e2'
  obtain ⟨rfl, rfl, rfl⟩ := e2'
  have g0 := i64_wf f0
  have g1 := i64_wf f1
  exact ⟨⟨a, b, t.hi, t.lo, t.w⟩, rfl, ⟨g0.1, g0.2, g1.1, g1.2, ht⟩⟩
set_option maxRecDepth 100000 in
theorem queue_open {v : Value} {d : DataW H} {pl : List MemPlace} (hv : Value.okWide Try.prog w .any base 24 v) (h : DataW.Trod enc Try.prog w 0 spare held 24 v d pl) :
    ∃ (p : Option Addr) (n cap : Nat) (ts : List Rn), v = .agg #[.slice p n cap] ∧ Sv w p ts ∧ n = ts.length ∧ n ≤ cap ∧ cap ≤ 9223372036854775807 ∧ ∀ r ∈ ts, r.U := by
  obtain ⟨cs, rfl, hsz⟩ := okWide_struct Try.underlying24 hv
  obtain ⟨fuel, hf⟩ := h
  obtain ⟨xs, n, _, _, hl, hlen, hf⟩ := DataW.trod_struct Try.underlying24 hf
  obtain ⟨y0, rfl⟩ := List.length_eq_one_iff.1 hlen
  have h0 : DataW.trod enc Try.prog w 0 spare held n 22 ((((Value.agg cs).cells.toList).drop 0).take (Try.prog.cellsOf 22)) = some y0 := hf 0 _ rfl
  rw [cQue] at hl
  obtain ⟨c0, hc0⟩ := List.length_eq_one_iff.1 hl
  rw [hc0, cRuns] at h0
  simp only [List.drop_zero, List.take_succ_cons, List.take_zero] at h0
  obtain ⟨q, m, capv, l2, he2, hs2, hm, hle2, hmx2, hw⟩ := trod_sv (α := Rn) (Good := fun r => r.U) Try.underlying22 cRun (fun _ _ _ h => rn_open h) h0
  simp only [List.cons.injEq, and_true] at he2
  subst he2
  refine ⟨q, m, capv, l2, ?_, hs2, hm, hle2, hmx2, hw⟩
  congr 1
  exact Array.toList_inj.1 (by simpa [Value.cells] using hc0)
end
end Go.Proofs.Ytnhkecfapohlgaa
