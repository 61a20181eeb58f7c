-- written by wip/xprint.py out of the translation
import Derived.Test.YtbkaiojofgmbnaaGreatXShort
import Derived.Test.YtbkaiojofgmbnaaGreatXSp0
import Derived.Test.YtbkaiojofgmbnaaGreatXSp6
import Derived.Test.YtbkaiojofgmbnaaGreatXSp7
namespace Go.Proofs.YtbkaiojofgmbnaaGreat.XS
open Go.Proofs.YtbkaiojofgmbnaaGreat.XShort Go.Proofs.YtbkaiojofgmbnaaGreat.XReg Go.Proofs.YtbkaiojofgmbnaaGreat.XGrow Go.RowKit Go.Proofs.YtbkaiojofgmbnaaGreatW.PrintWords Go.Proofs.YtbkaiojofgmbnaaGreatW.PrintLast Go.Proofs.YtbkaiojofgmbnaaGreatW.PrintMore
attribute [local go_sem] max2_int min2_int max_two min_two max_three min_three max_four min_four   -- for this text's walks alone
set_option linter.unusedVariables false
set_option linter.unusedSimpArgs false

/-! ### slices_Max_int_int: function 130 -/
/-- the greatest of some whole numbers; none: there are none -/
def Max_int.f : List Int → Option Int
  | [] => none
  | x :: l => some (l.foldl (fun a b => if a < b then b else a) x)
theorem Max_int.take (x : Int) (l : List Int) (n : Nat) (hn : n < l.length) : (l.take (n + 1)).foldl (fun a b => if a < b then b else a) x = (if (l.take n).foldl (fun a b => if a < b then b else a) x < l[n] then l[n] else (l.take n).foldl (fun a b => if a < b then b else a) x) := by
  rw [List.take_succ_eq_append_getElem hn, List.foldl_append]
  rfl
set_option maxHeartbeats 2000000 in
set_option maxRecDepth 100000 in
theorem Max_int.calls (A0 : Option Addr) (c0 : Nat) (l0 : List Int) (r : Int) (w : World) (hr0 : Kd.C (Kd.int .i64) w A0 l0.length l0) (hc0 : l0.length ≤ c0) (h : Max_int.f l0 = some r) :
    Calls Tryz.prog 130 #[.slice A0 l0.length c0] w fun e w' => e = .returned (.int .i64 r) ∧ Drawn0 w w' := by
  cases l0 with
  | nil => cases h
  | cons x l =>
    have H := Option.some.inj h
    have HH := Aside0.mk H
    have hbig := hr0.2.1
    have HR := Aside0.mk hr0
    obtain ⟨ad, e1, hx0⟩ := Kd.at_int hr0 0 (Int.le_refl _) (by simp)
    subst e1
    have hx0' : w.cell? (ad.add (0 : Int).toNat) = some (.int .i64 x) := hx0
    clear h H hr0 hx0
    generalize hn : (x :: l).length = n at *
    have hn0 : 0 < n := by rw [← hn]; simp
    have HN := Aside0.mk hn
    clear hn
    have g1 : decide ((n : Int) < 1) = false := decide_eq_false (by omega)
    have g2 : decide (n < 1) = false := decide_eq_false (by omega)
    have g3 : (0 : Int) < (n : Int) := by omega
    have hx1 : w.cell? ad = some (.int .i64 x) := by rw [← Addr.add_zero' ad]; exact hx0'
    clear hx0'
    go_enter Tryz.func130, Tryz.ntmps130
    go_wp2
    go_loopg [3, 4] (n - 1) (fun kq v3 v4 wr => ∃ j : Nat, Aside0 (n - (j + 1) = kq) ∧ Aside0 (j + 1 ≤ n) ∧ v4 = .int .i64 ((j : Int) + 1) ∧ v3 = .int .i64 ((l.take j).foldl (fun a b => if a < b then b else a) x) ∧ Drawn0 w wr)
    case atStart => exact ⟨0, ⟨rfl⟩, ⟨hn0⟩, rfl, rfl, Drawn0.refl _⟩
    case round =>
      obtain ⟨j, HJ, HJL, rfl, rfl, ⟨m, rfl⟩⟩ := hrel
      by_cases hj : j + 1 < n
      · have g4 : decide (((j : Int) + 1) < (n : Int)) = true := decide_eq_true (by omega)
        have g5 : ((j : Int) + 1) < (n : Int) := by omega
        have hjl : j < l.length := by have := HN.out; simp at this; omega
        obtain ⟨ad2, e2, hx2⟩ := Kd.at_int HR.out ((j : Int) + 1) (by omega) g5
        cases e2
        have hv : rd (x :: l) ((j : Int) + 1) = l[j] := by simp [rd, show ((j : Int) + 1).toNat = j + 1 by omega, hjl]
        rw [hv, show ((j : Int) + 1).toNat = j + 1 by omega, Addr.add_succ'] at hx2
        have ht := Max_int.take x l j hjl
        generalize l[j] = y at hx2 ht
        generalize hfo : (l.take j).foldl (fun a b => if a < b then b else a) x = f0 at *
        have HT := Aside0.mk ht
        clear ht hfo hv
        by_cases hfy : f0 < y
        all_goals
          go_wp2
          go_roundg (n - (j + 1 + 1))
          case measure => have := HJ.out; omega
          case rel => exact ⟨j + 1, ⟨rfl⟩, ⟨hj⟩, by go_num, (by rw [HT.out]; first | rw [if_pos hfy] | rw [if_neg (by omega)]), ⟨⟨m, rfl⟩⟩⟩
      · have g4 : decide (((j : Int) + 1) < (n : Int)) = false := decide_eq_false (by omega)
        have hjl : j = l.length := by have := HN.out; have := HJL.out; simp at *; omega
        subst hjl
        have HH2 := HH.out
        rw [List.take_length]
        rw [HH2]
        go_wp2
        go_ret
        exact ⟨rfl, ⟨⟨m, rfl⟩⟩⟩


/-! ### term_Depth: function 118 -/
-- USES semblance/term.fold
-- USES slices.Max[[]int,int]
/-- a term's depth, of the depths of those below -/
def term_Depth.mk (k : Nat) (op : Int) (vs : List Int) : Option Int := (Max_int.f (vs ++ [0])).bind fun m => some (wrap64 (1 + m))
def term_Depth.f (k : Nat) (l0 : List (S78)) : Option Int := term_fold.f k (term_Depth.mk k) l0
theorem term_Depth.mono : ∀ a0 k, LeO (term_Depth.f k a0) (term_Depth.f (k + 1) a0) := fun a0 k =>
  term_fold.mono k _ _ (fun op vs => LeO.refl _) a0
instance term_Depth.lc : ∀ a0 k, LeC (term_Depth.f k a0) (term_Depth.f (k + 1) a0) := fun a0 k => ⟨term_Depth.mono a0 k⟩
set_option maxHeartbeats 2000000 in
set_option maxRecDepth 100000 in
theorem term_Depth.lit (k : Nat) (W : World) (base : Nat) (op : Int) (v : Value) (vs : List Int) (r : Int) (hb : base ≤ W.heap.size) (hn : vs.length ≤ 100) (hr : Kd.R (Kd.int .i64) 3 W base (fun _ => True) v vs) (h : term_Depth.mk k op vs = some r) :
    Calls Tryz.prog 129 #[.int .i64 op, v] W fun e w' => e = .returned (.int .i64 r) ∧ W.grownBy w' v.ownBlock := by
  unfold term_Depth.mk at h
  obtain ⟨m, hm, h⟩ := Option.bind_eq_some_iff.mp h
  have H := Option.some.inj h
  subst H
  generalize hys : vs ++ [0] = ys at hm
  have HY := Aside0.mk hys
  have HM := Aside0.mk hm
  have HR := Aside0.mk hr
  obtain ⟨A1, c1, e1⟩ := Kd.R_slice hr
  subst e1
  clear h hm hr hys
  go_enter Tryz.func129, Tryz.ntmps129
  go_wp2_with ((with_reducible refine gate_builtin (b := .append) (xs := #[.tmp 5, .tmp 6]) rfl ?_); at_builtin; refine Kd.R_append (Kd.int .i64) (w0 := W) base rfl (.tmp 5) (.tmp 6) 95 3 (.int .i64 0) 8 rfl Tryz.underlying95 info3 rfl (by decide) (by omega) (.slice A1 vs.length c1) vs 0 [.int .i64 0] (fun _ => True) (fun _ => False) rfl rfl ?aP (fun _ hk => hk.elim) ?aF ?aO ?aB ?aS ?aL ?aK)
  case aP => exact rfl
  case aF => exact fun _ _ => trivial
  case aO => exact HR.out
  case aB => exact Below.refl _ _
  case aS => exact hb
  case aL => omega
  case aK =>
    intro v1 w1 ho _ hg _
    rw [HY.out] at ho
    obtain ⟨A2, c2, rfl, hl2, hC2⟩ := Kd.R_reads ho
    have HC2 := Aside0.mk hC2
    have HG := Aside0.mk hg
    clear ho hC2 hg
    go_wp2_with fail
    refine (Max_int.calls A2 c2 ys m _ HC2.out hl2 HM.out).mono ?_
    rintro e w' ⟨rfl, ⟨nd, rfl⟩⟩
    go_wp2
    go_ret
    exact ⟨rfl, ⟨HG.out.os, HG.out.tape, HG.out.output, HG.out.size, HG.out.block⟩⟩
set_option maxHeartbeats 2000000 in
theorem term_Depth.calls (k : Nat) (A0 : Option Addr) (c0 : Nat) (l0 : List (S78)) (r : Int) (w : World) (hr0 : Kd.C k78 w A0 l0.length l0) (hc0 : l0.length ≤ c0) (h : term_Depth.f k l0 = some r) :
    Calls Tryz.prog 118 #[.slice A0 l0.length c0] w fun e w' => e = .returned (.int .i64 r) ∧ Below w.heap.size w w' := by
  have HC := Aside0.mk (term_fold.calls k (term_Depth.mk k) 129 (Go.Proofs.enters_of Tryz.func129 (by kernel_rfl) rfl) (fun W base op v vs r hb hn hr h => term_Depth.lit k W base op v vs r hb hn hr h) A0 c0 l0 r w hr0 hc0 h)
  clear hr0 h
  go_enter Tryz.func118, Tryz.ntmps118
  go_wp2_with fail
  refine HC.out.mono ?_
  rintro e w' ⟨rfl, hb⟩
  go_wp2
  go_ret
  exact ⟨rfl, hb⟩


/-! ### term_Check: function 105 -/
-- USES slices.ContainsFunc[[]semblance/api.Term,semblance/api.Term]
-- USES semblance/term.Depth
def term_Check.f (k : Nat) (l0 : List (S78)) : Option Int :=
  if 40 < l0.length then some 8 else (term_whole.f k l0).bind fun b => if b = true then ((l0.mapM fun x => term_may.f k x.f0 x.f1 x.f2).bind fun bs => if (bs.any fun b => !b) = true then some 1 else (term_Depth.f k l0).bind fun d => if 12 < d then some 6 else some 0) else some 1
theorem term_Check.mono : ∀ a0 k, LeO (term_Check.f k a0) (term_Check.f (k + 1) a0) := by
  intro l k
  unfold term_Check.f
  refine LeO.ite (LeO.refl _) (LeO.bind (term_whole.mono l k) (fun b => LeO.ite (LeO.bind ?_ (fun bs => LeO.ite (LeO.refl _) (LeO.bind (term_Depth.mono l k) (fun d => LeO.refl _)))) (LeO.refl _)))
  intro bs hbs
  exact Go.Proofs.YtbkaiojofgmbnaaGreat.XFind.mapM_le (fun x r hx => term_may.mono _ _ _ k r hx) hbs
instance term_Check.lc : ∀ a0 k, LeC (term_Check.f k a0) (term_Check.f (k + 1) a0) := fun a0 k => ⟨term_Check.mono a0 k⟩
set_option maxHeartbeats 2000000 in
theorem term_Check.lit (k : Nat) (x : S78) (b : Bool) (W : World) (h : term_may.f k x.f0 x.f1 x.f2 = some b) :
    Calls Tryz.prog 116 #[.agg #[.int .i64 x.f0, .int .i64 x.f1, .string x.f2]] W fun e w' => e = .returned (.bool (!b)) ∧ Below W.heap.size W w' := by
  have H := Aside0.mk h
  clear h
  have hu := Tryz.underlying78
  go_enter Tryz.func116, Tryz.ntmps116
  go_wp2_with fail
  refine (term_may.calls k x.f0 x.f1 x.f2 b _ H.out).mono ?_
  rintro e w' ⟨rfl, hb⟩
  go_wp2
  go_ret
  exact ⟨rfl, ((Below.refl _ _).alloc (Nat.le_refl _) _).trans (hb.mono (by rw [World.size_alloc]; exact Nat.le_succ _))⟩
set_option maxHeartbeats 2000000 in
theorem term_Check.calls (k : Nat) (A0 : Option Addr) (c0 : Nat) (l0 : List (S78)) (r : Int) (w : World) (hr0 : Kd.C k78 w A0 l0.length l0) (hc0 : l0.length ≤ c0) (h : term_Check.f k l0 = some r) :
    Calls Tryz.prog 105 #[.slice A0 l0.length c0] w fun e w' => e = .returned (.int .i64 r) ∧ Below w.heap.size w w' := by
  unfold term_Check.f at h
  by_cases h40 : 40 < l0.length
  · rw [if_pos h40] at h
    have H := Option.some.inj h
    subst H
    have c1 : decide (40 < l0.length) = true := decide_eq_true h40
    have c2 : decide ((40 : Int) < (l0.length : Int)) = true := decide_eq_true (by omega)
    clear h hr0
    go_enter Tryz.func105, Tryz.ntmps105
    go_wp2_with fail
    go_ret
    exact ⟨rfl, Below.refl _ _⟩
  · rw [if_neg h40] at h
    have c1 : decide (40 < l0.length) = false := decide_eq_false h40
    have c2 : decide ((40 : Int) < (l0.length : Int)) = false := decide_eq_false (by omega)
    obtain ⟨b, hw, h⟩ := Option.bind_eq_some_iff.mp h
    have HW := Aside0.mk hw
    have HR := Aside0.mk hr0
    clear hw hr0
    cases b with
    | false =>
      have H := Option.some.inj h
      subst H
      clear h
      go_enter Tryz.func105, Tryz.ntmps105
      go_wp2_with (go_at_call 114; refine (term_whole.calls k A0 c0 l0 false _ HR.out hc0 HW.out).mono ?_; rintro e w' ⟨rfl, hd⟩)
      go_ret
      exact ⟨rfl, hd.below⟩
    | true =>
      rw [if_pos rfl] at h
      obtain ⟨bs, hbs, h⟩ := Option.bind_eq_some_iff.mp h
      obtain ⟨_, hall, hany⟩ := Go.Proofs.YtbkaiojofgmbnaaGreat.XFind.mapM_some hbs
      rw [hany (fun b => !b) true] at h
      have eg := Go.Proofs.enters_of Tryz.func116 (by kernel_rfl) rfl
      have hcont := fun W (hW : Below w.heap.size w W) => ContainsFunc_Term.calls (fun x => !((term_may.f k x.f0 x.f1 x.f2).getD true)) 116 #[] eg A0 c0 l0 W (Kd.C_below HR.out hW)
        (fun W2 h2 x hx => by
          obtain ⟨b, hb⟩ := hall x hx
          rw [hb]
          exact (term_Check.lit k x b W2 hb).mono fun e w' ⟨he, hw⟩ => ⟨he, h2.trans (hw.mono h2.size)⟩)
      generalize (l0.any fun x => !((term_may.f k x.f0 x.f1 x.f2).getD true)) = q at h hcont
      have HCO := Aside0.mk hcont
      clear hcont hbs hall hany
      cases q with
      | true =>
        have H := Option.some.inj h
        subst H
        clear h
        go_enter Tryz.func105, Tryz.ntmps105
        go_wp2_with (go_at_call 114; refine (term_whole.calls k A0 c0 l0 true _ HR.out hc0 HW.out).mono ?_; rintro e w' ⟨rfl, ⟨m, rfl⟩⟩)
        refine (HCO.out _ (pw_below_drewN (Below.refl _ _) m)).mono ?_
        rintro e w' ⟨rfl, hb⟩
        go_wp2
        go_ret
        exact ⟨rfl, (pw_below_drewN (Below.refl _ _) m).trans hb⟩
      | false =>
        rw [if_neg (by simp)] at h
        obtain ⟨d, hd, h⟩ := Option.bind_eq_some_iff.mp h
        have HD := Aside0.mk hd
        clear hd
        by_cases h12 : 12 < d
        · rw [if_pos h12] at h
          have H := Option.some.inj h
          subst H
          have d1 : decide (12 < d) = true := decide_eq_true h12
          clear h
          go_enter Tryz.func105, Tryz.ntmps105
          go_wp2_with (go_at_call 114; refine (term_whole.calls k A0 c0 l0 true _ HR.out hc0 HW.out).mono ?_; rintro e w' ⟨rfl, ⟨m, rfl⟩⟩)
          refine (HCO.out _ (pw_below_drewN (Below.refl _ _) m)).mono ?_
          rintro e w1 ⟨rfl, hb⟩
          have hb1 := (pw_below_drewN (Below.refl _ _) m).trans hb
          go_wp2_with (go_at_call 118; refine (term_Depth.calls k A0 c0 l0 d _ (Kd.C_below HR.out hb1) hc0 HD.out).mono ?_; rintro e w2 ⟨rfl, hb2⟩)
          go_ret
          exact ⟨rfl, hb1.trans (hb2.mono hb1.size)⟩
        · rw [if_neg h12] at h
          have H := Option.some.inj h
          subst H
          have d1 : decide (12 < d) = false := decide_eq_false h12
          clear h
          go_enter Tryz.func105, Tryz.ntmps105
          go_wp2_with (go_at_call 114; refine (term_whole.calls k A0 c0 l0 true _ HR.out hc0 HW.out).mono ?_; rintro e w' ⟨rfl, ⟨m, rfl⟩⟩)
          refine (HCO.out _ (pw_below_drewN (Below.refl _ _) m)).mono ?_
          rintro e w1 ⟨rfl, hb⟩
          have hb1 := (pw_below_drewN (Below.refl _ _) m).trans hb
          go_wp2_with (go_at_call 118; refine (term_Depth.calls k A0 c0 l0 d _ (Kd.C_below HR.out hb1) hc0 HD.out).mono ?_; rintro e w2 ⟨rfl, hb2⟩)
          go_ret
          exact ⟨rfl, hb1.trans (hb2.mono hb1.size)⟩


/-! ### act_may: function 102 -/
def act_may.j0 : Nat → Bool → ByteArray → Bool → List (S78) → Option (Int)
  | 0, _, _, _, _ => none
  | k + 1, x3, x203000, x203001, x203002 => if x3 = true then (some 1) else (if x203001 = true then (some 0) else ((term_Check.f k x203002).bind fun t204 => (some t204)))
def act_may.f (k : Nat) (a0_0 : ByteArray) (a0_1 : Bool) (l0_2 : List (S78)) : Option (Int) := (names_Is.f k a0_0).bind fun t203 => (if t203 = true then (if a0_1 = true then (act_may.j0 k (decide ((l0_2.length : Int) > 0)) a0_0 a0_1 l0_2) else (act_may.j0 k false a0_0 a0_1 l0_2)) else (act_may.j0 k (!t203) a0_0 a0_1 l0_2))
theorem act_may.mono_l : ∀ k, (∀ y0 y1 y2 y3, LeO (act_may.j0 k y0 y1 y2 y3) (act_may.j0 (k + 1) y0 y1 y2 y3))
  | 0 => fun _ _ _ _ r h => by simp [act_may.j0] at h
  | k + 1 => by
    have ih0 := act_may.mono_l k
    · intro y0 y1 y2 y3
      unfold act_may.j0
      exact mo_
theorem act_may.mono : ∀ a0 a1 a2 k, LeO (act_may.f k a0 a1 a2) (act_may.f (k + 1) a0 a1 a2) := by
  intro a0 a1 a2 k
  have ih0 := act_may.mono_l k
  unfold act_may.f
  exact mo_
instance act_may.lc : ∀ a0 a1 a2 k, LeC (act_may.f k a0 a1 a2) (act_may.f (k + 1) a0 a1 a2) := fun a0 a1 a2 k => ⟨act_may.mono a0 a1 a2 k⟩
set_option maxHeartbeats 8000000 in
set_option maxRecDepth 100000 in
theorem act_may.calls (k : Nat) (a0_0 : ByteArray) (a0_1 : Bool) (A0_2 : Option Addr) (c0_2 : Nat) (l0_2 : List (S78)) (r : Int) (w : World) (hr0_2 : Kd.C k78 w A0_2 l0_2.length l0_2) (hc0_2 : l0_2.length ≤ c0_2) (h : act_may.f k a0_0 a0_1 l0_2 = some r) :
  Calls Tryz.prog 102 #[.agg #[.string a0_0, .bool a0_1, .slice A0_2 l0_2.length c0_2]] w fun e w' => e = .returned (.int .i64 r) ∧ Below w.heap.size w w' := by
 have hu76 := Tryz.underlying76
 have HR0_2 := Aside0.mk hr0_2
 have HC0_2 := Aside0.mk hc0_2
 clear hr0_2 hc0_2
 have HB := Aside0.mk (Below.refl w.heap.size w)
 unfold act_may.f at h
 have H := h
 clear h
 replace H := bi_ H; obtain ⟨t203, A2, H⟩ := H
 have HC3 := Aside0.mk H
 clear H
 go_enter Tryz.func102, Tryz.ntmps102
 go_upto_if 3 with (first | ((with_reducible refine gate_dst (N := 1) rfl ?_); (try (refine gate_guard (by rfl) ?_; dsimp only)); refine bx_ HB (N := 1) (cs := #[.string a0_0, .bool a0_1, .slice A0_2 l0_2.length c0_2]) (t := 76) ?_; clear HB; intro gb202 w4 HB BK202 GW202 GE202; obtain ⟨z5_0, z5_1, z5_2, y5_0, y5_1, y5_2⟩ := cw3_ BK202.out) | ((with_reducible refine gate_callee (f := 43) rfl ?_); refine gl_ (some 6) Tryz.func43 #[.string a0_0] ?_; (with_reducible refine cm_ (names_Is.calls k a0_0 t203 _ A2.out) ?_); intro w6 hb; refine ⟨_, rfl, ?_⟩; replace BK202 := tb_ BK202 hb; replace HB := ts_ HB hb; clear hb))
 (try simp only [Act.put, sb_, s0_, s1_])
 go_cut [3] (fun v3 wc => ∃ (kq : Nat) (x3_2 : Bool), v3 = .bool x3_2 ∧ Aside0 (act_may.j0 kq x3_2 a0_0 a0_1 l0_2 = some r) ∧ Aside0 (kq ≤ k) ∧ Aside0 (wc.heap[gb202]? = some (.cells #[.string a0_0, .bool a0_1, (.slice A0_2 l0_2.length c0_2)] 76 (0, 0))) ∧ Aside0 (Below w.heap.size w wc))
 case first =>
  have H := HC3.out
  clear HC3
  replace H := ib_ H; obtain ⟨rfl, H⟩ | ⟨rfl, H⟩ := H
  ·have H' := Aside0.mk H
   clear H
   go_wp2
   go_meet
   case rel => exact ⟨_, (!false), rl_, H', ⟨km_⟩, ⟨grw BK202.out⟩, ⟨bw_⟩⟩
  replace H := ie_ H; obtain ⟨rfl, H⟩ | ⟨rfl, H⟩ := H
  ·have H' := Aside0.mk H
   clear H
   obtain ⟨z9_0, z9_1, z9_2, y9_0, y9_1, y9_2⟩ := cw3_ BK202.out
   go_wp2
   go_meet
   case rel => exact ⟨_, (decide ((l0_2.length : Int) > 0)), rl_, H', ⟨km_⟩, ⟨grw BK202.out⟩, ⟨bw_⟩⟩
  have H' := Aside0.mk H
  clear H
  obtain ⟨z10_0, z10_1, z10_2, y10_0, y10_1, y10_2⟩ := cw3_ BK202.out
  go_wp2
  go_meet
  case rel => exact ⟨_, (false), rl_, H', ⟨km_⟩, ⟨grw BK202.out⟩, ⟨bw_⟩⟩
 case rest =>
  clear HC3
  try clear z5_0 z5_1 z5_2
  try clear y5_0 y5_1 y5_2
  obtain ⟨kq, x3_2, rfl, HA, HJ2, BK202, HB⟩ := hcut
  cases kq with
  | zero => exact absurd HA.out (by simp [act_may.j0])
  | succ kj2 =>
   have H := HA.out
   clear HA
   simp only [act_may.j0] at H
   replace H := ie_ H; obtain ⟨rfl, H⟩ | ⟨rfl, H⟩ := H
   ·obtain rfl := Option.some.inj H
    go_wp2
    go_ret
    exact ⟨rv_, bw_⟩
   replace H := ie_ H; obtain ⟨rfl, H⟩ | ⟨rfl, H⟩ := H
   ·obtain rfl := Option.some.inj H
    obtain ⟨z13_0, z13_1, z13_2, y13_0, y13_1, y13_2⟩ := cw3_ BK202.out
    go_wp2
    go_ret
    exact ⟨rv_, bw_⟩
   replace H := bi_ H; obtain ⟨t204, A14, H⟩ := H
   obtain rfl := Option.some.inj H
   obtain ⟨z15_0, z15_1, z15_2, y15_0, y15_1, y15_2⟩ := cw3_ BK202.out
   go_wp2_with (first | ((with_reducible refine gate_callee (f := 105) rfl ?_); refine gl_ (some 21) Tryz.func105 #[.slice A0_2 l0_2.length c0_2] ?_; (with_reducible refine cm_ (term_Check.calls kj2 _ _ l0_2 t204 _ (kc_ HR0_2 HB) HC0_2.out A14.out) ?_); intro w16 hb; refine ⟨_, rfl, ?_⟩; replace BK202 := tb_ BK202 hb; replace HB := ts_ HB hb; clear hb))
   go_ret
   exact ⟨rv_, bw_⟩

/-! ### act_Check: function 78 -/
def act_Check.l0 : Nat → List (S76) → Int → Int → Option (Int)
  | 0, _, _, _ => none
  | k + 1, x9, x10, x11 => if x11 < x10 then (if 0 ≤ x11 then (if x11 < (x9.length : Int) then ((act_may.f k ((rd_T76 x9 x11).f0) ((rd_T76 x9 x11).f1) ((rd_T76 x9 x11).f2)).bind fun t207 => (if t207 = 0 then (act_Check.l0 k x9 x10 (wrap64 (x11 + 1))) else (some t207))) else (none)) else (none)) else (some 0)
def act_Check.f (k : Nat) (l0 : List (S76)) : Option (Int) := if (l0.length : Int) > 8 then (some 8) else (act_Check.l0 k l0 (l0.length : Int) 0)
theorem act_Check.mono_l : ∀ k, (∀ y0 y1 y2, LeO (act_Check.l0 k y0 y1 y2) (act_Check.l0 (k + 1) y0 y1 y2))
  | 0 => fun _ _ _ r h => by simp [act_Check.l0] at h
  | k + 1 => by
    have ih0 := act_Check.mono_l k
    · intro y0 y1 y2
      unfold act_Check.l0
      exact mo_
theorem act_Check.mono : ∀ a0 k, LeO (act_Check.f k a0) (act_Check.f (k + 1) a0) := by
  intro a0 k
  have ih0 := act_Check.mono_l k
  unfold act_Check.f
  exact mo_
instance act_Check.lc : ∀ a0 k, LeC (act_Check.f k a0) (act_Check.f (k + 1) a0) := fun a0 k => ⟨act_Check.mono a0 k⟩
set_option maxHeartbeats 8000000 in
set_option maxRecDepth 100000 in
theorem act_Check.calls (k : Nat) (A0 : Option Addr) (c0 : Nat) (l0 : List (S76)) (r : Int) (w : World) (hr0 : Kd.C k76 w A0 l0.length l0) (hc0 : l0.length ≤ c0) (h : act_Check.f k l0 = some r) :
  Calls Tryz.prog 78 #[.slice A0 l0.length c0] w fun e w' => e = .returned (.int .i64 r) ∧ Below w.heap.size w w' := by
 have hu76 := Tryz.underlying76
 have HR0 := Aside0.mk hr0
 have HC0 := Aside0.mk hc0
 clear hr0 hc0
 have HB := Aside0.mk (Below.refl w.heap.size w)
 unfold act_Check.f at h
 have H := h
 clear h
 replace H := id_ H; obtain ⟨c2, H⟩ | ⟨c2, H⟩ := H
 ·have c2b0 : decide (8 < (l0.length : Int)) = true := decide_eq_true c2
  have c2b1 : decide (8 < l0.length) = true := decide_eq_true (by omega)
  clear c2
  obtain rfl := Option.some.inj H
  go_enter Tryz.func78, Tryz.ntmps78
  go_wp2
  go_ret
  exact ⟨rv_, bw_⟩
 have c2b0 : decide (8 < (l0.length : Int)) = false := decide_eq_false c2
 have c2b1 : decide (8 < l0.length) = false := decide_eq_false (by omega)
 clear c2
 have H' := Aside0.mk H
 clear H
 go_enter Tryz.func78, Tryz.ntmps78
 go_wp2
 go_loopg [11] k (fun kq v11 w' => ∃ (x11_1 : Int), v11 = .int .i64 x11_1 ∧ Aside0 (act_Check.l0 kq l0 (l0.length : Int) x11_1 = some r) ∧ Aside0 (kq ≤ k) ∧ Aside0 (Below w.heap.size w w'))
 case atStart => exact ⟨(0), rl_, H', ⟨Nat.le_refl _⟩, ⟨bw_⟩⟩
 case round =>
  clear H'
  try clear c2b0
  try clear c2b1
  obtain ⟨x11_1, rfl, HA, HK1, HB⟩ := hrel
  cases gk with
  | zero => exact absurd HA.out (by simp [act_Check.l0])
  | succ k1 =>
   have H := HA.out
   clear HA
   simp only [act_Check.l0] at H
   replace H := it_ H; obtain ⟨c3b0, H⟩ | ⟨c3b0, H⟩ := H
   ·obtain rfl := Option.some.inj H
    go_wp2
    go_ret
    exact ⟨rv_, bw_⟩

   replace H := is_ H; obtain ⟨c4b0, H⟩ := H
   replace H := is_ H; obtain ⟨c5b0, H⟩ := H
   replace H := bi_ H; obtain ⟨t207, A6, H⟩ := H
   replace H := ic_ H; obtain ⟨c7, H⟩ | ⟨c7, H⟩ := H
   ·have c7b0 : (t207 == 0) = false := beq_eq_false_iff_ne.mpr c7
    have c7b1 : (t207 != 0) = true := bne_iff_ne.mpr c7
    obtain rfl := Option.some.inj H
    obtain ⟨ad205, A205_2, c205_2, e205, hx205_0, hx205_1, hx205_2, HC205_2, HR205_2, p205, q205⟩ := au_T76 HR0 HB x11_1; cases e205
    go_wp2_with (first | ((with_reducible refine gate_dst (N := 4) rfl ?_); refine bx_ HB (N := 4) (cs := #[.string (⟨#[]⟩ : ByteArray), .bool false, .slice none 0 0]) (t := 76) ?_; clear HB; intro gb206 w11 HB BK206 GW206 GE206; obtain ⟨z12_0, z12_1, z12_2, y12_0, y12_1, y12_2⟩ := cw3_ BK206.out) | ((with_reducible refine gate_callee (f := 102) rfl ?_); refine gl_ (some 16) Tryz.func102 #[.agg #[.string ((rd_T76 l0 x11_1).f0), .bool ((rd_T76 l0 x11_1).f1), .slice A205_2 ((rd_T76 l0 x11_1).f2).length c205_2]] ?_; (with_reducible refine (act_may.calls k1 ((rd_T76 l0 x11_1).f0) ((rd_T76 l0 x11_1).f1) _ _ ((rd_T76 l0 x11_1).f2) t207 _ ?side1 HC205_2.out A6.out).mono ?_); (case side1 => exact Kd.C_below HR205_2.out bw_); rintro e w13 ⟨rfl, hb⟩; refine ⟨_, rfl, ?_⟩; replace BK206 := Aside0.mk (blk_below (g := gb206) (o := .cells #[.string ((rd_T76 l0 x11_1).f0), .bool ((rd_T76 l0 x11_1).f1), .slice A205_2 ((rd_T76 l0 x11_1).f2).length c205_2] 76 (0, 0)) (by refine grO ?_; refine blk_put (cs := #[.string ((rd_T76 l0 x11_1).f0), .bool ((rd_T76 l0 x11_1).f1), .slice none 0 0]) ?_ 2 _ rfl; refine grO ?_; refine blk_put (cs := #[.string ((rd_T76 l0 x11_1).f0), .bool false, .slice none 0 0]) ?_ 1 _ rfl; refine grO ?_; refine blk_put (cs := #[.string (⟨#[]⟩ : ByteArray), .bool false, .slice none 0 0]) ?_ 0 _ rfl; refine grO ?_; exact BK206.out) hb); replace HB := ts_ HB hb; clear hb))
    go_ret
    exact ⟨rv_, bw_⟩
   have c7b0 : (t207 == 0) = true := beq_iff_eq.mpr c7
   have c7b1 : (t207 != 0) = false := bne_eq_false_iff_eq.mpr c7
   clear c7
   have H' := Aside0.mk H
   clear H
   obtain ⟨ad205, A205_2, c205_2, e205, hx205_0, hx205_1, hx205_2, HC205_2, HR205_2, p205, q205⟩ := au_T76 HR0 HB x11_1; cases e205
   go_wp2_with (first | ((with_reducible refine gate_dst (N := 4) rfl ?_); refine bx_ HB (N := 4) (cs := #[.string (⟨#[]⟩ : ByteArray), .bool false, .slice none 0 0]) (t := 76) ?_; clear HB; intro gb206 w8 HB BK206 GW206 GE206; obtain ⟨z9_0, z9_1, z9_2, y9_0, y9_1, y9_2⟩ := cw3_ BK206.out) | ((with_reducible refine gate_callee (f := 102) rfl ?_); refine gl_ (some 16) Tryz.func102 #[.agg #[.string ((rd_T76 l0 x11_1).f0), .bool ((rd_T76 l0 x11_1).f1), .slice A205_2 ((rd_T76 l0 x11_1).f2).length c205_2]] ?_; (with_reducible refine (act_may.calls k1 ((rd_T76 l0 x11_1).f0) ((rd_T76 l0 x11_1).f1) _ _ ((rd_T76 l0 x11_1).f2) t207 _ ?side1 HC205_2.out A6.out).mono ?_); (case side1 => exact Kd.C_below HR205_2.out bw_); rintro e w10 ⟨rfl, hb⟩; refine ⟨_, rfl, ?_⟩; replace BK206 := Aside0.mk (blk_below (g := gb206) (o := .cells #[.string ((rd_T76 l0 x11_1).f0), .bool ((rd_T76 l0 x11_1).f1), .slice A205_2 ((rd_T76 l0 x11_1).f2).length c205_2] 76 (0, 0)) (by refine grO ?_; refine blk_put (cs := #[.string ((rd_T76 l0 x11_1).f0), .bool ((rd_T76 l0 x11_1).f1), .slice none 0 0]) ?_ 2 _ rfl; refine grO ?_; refine blk_put (cs := #[.string ((rd_T76 l0 x11_1).f0), .bool false, .slice none 0 0]) ?_ 1 _ rfl; refine grO ?_; refine blk_put (cs := #[.string (⟨#[]⟩ : ByteArray), .bool false, .slice none 0 0]) ?_ 0 _ rfl; refine grO ?_; exact BK206.out) hb); replace HB := ts_ HB hb; clear hb))
   go_roundg k1
   case measure => have := HK1.out; omega
   case rel => exact ⟨(wrap64 (x11_1 + 1)), rl_, H', ⟨kn_ HK1⟩, ⟨bw_⟩⟩
/-! ### trans_named: function 104 -/
def trans_named.f (k : Nat) (a0 : ByteArray) : Option (Bool) := if a0.toList = ([] : List UInt8) then (some true) else ((names_Is.f k a0).bind fun t208 => (some t208))
theorem trans_named.mono : ∀ a0 k, LeO (trans_named.f k a0) (trans_named.f (k + 1) a0) := by
  intro a0 k
  unfold trans_named.f
  exact mo_
instance trans_named.lc : ∀ a0 k, LeC (trans_named.f k a0) (trans_named.f (k + 1) a0) := fun a0 k => ⟨trans_named.mono a0 k⟩
set_option maxHeartbeats 8000000 in
set_option maxRecDepth 100000 in
theorem trans_named.calls (k : Nat) (a0 : ByteArray) (r : Bool) (w : World) (h : trans_named.f k a0 = some r) :
    Calls Tryz.prog 104 #[.string a0] w fun e w' => e = .returned (.bool r) ∧ Below w.heap.size w w' := by
  have HB := Aside0.mk (Below.refl w.heap.size w)
  unfold trans_named.f at h
  have H := h
  clear h
  by_cases c2 : a0.toList = ([] : List UInt8)
  · rw [if_pos c2] at H
    have c2b0 : (a0.toList == ([] : List UInt8)) = true := beq_iff_eq.mpr c2
    have c2b1 : (a0.toList != ([] : List UInt8)) = false := bne_eq_false_iff_eq.mpr c2
    clear c2
    obtain rfl := Option.some.inj H
    go_enter Tryz.func104, Tryz.ntmps104
    go_wp2
    go_ret
    exact ⟨rv_, bw_⟩
  · rw [if_neg c2] at H
    have c2b0 : (a0.toList == ([] : List UInt8)) = false := beq_eq_false_iff_ne.mpr c2
    have c2b1 : (a0.toList != ([] : List UInt8)) = true := bne_iff_ne.mpr c2
    replace H := bi_ H; obtain ⟨t208, A3, H⟩ := H
    obtain rfl := Option.some.inj H
    go_enter Tryz.func104, Tryz.ntmps104
    go_wp2_with (first | (go_at_call 43; (with_reducible refine cm_ (names_Is.calls k a0 t208 _ A3.out) ?_); intro w4 hb; replace HB := ts_ HB hb; clear hb))
    go_ret
    exact ⟨rv_, bw_⟩

/-! ### trans_Check: function 81 -/
def trans_Check.j0 : Nat → Bool → ByteArray → List (S78) → List (S76) → ByteArray → Option (Int)
  | 0, _, _, _, _, _ => none
  | k + 1, x13, x210000, x210001, x210002, x210003 => if x13 = true then (some 1) else (if (x210001.length : Int) > 0 then ((term_Check.f k x210001).bind fun t212 => (if t212 = 0 then ((act_Check.f k x210002).bind fun t213 => (some t213)) else (some t212))) else ((act_Check.f k x210002).bind fun t214 => (some t214)))
def trans_Check.f (k : Nat) (a0_0 : ByteArray) (l0_1 : List (S78)) (l0_2 : List (S76)) (a0_3 : ByteArray) : Option (Int) := (trans_named.f k a0_0).bind fun t210 => (if t210 = true then ((trans_named.f k a0_3).bind fun t211 => (trans_Check.j0 k (!t211) a0_0 l0_1 l0_2 a0_3)) else (trans_Check.j0 k true a0_0 l0_1 l0_2 a0_3))
theorem trans_Check.mono_l : ∀ k, (∀ y0 y1 y2 y3 y4, LeO (trans_Check.j0 k y0 y1 y2 y3 y4) (trans_Check.j0 (k + 1) y0 y1 y2 y3 y4))
  | 0 => fun _ _ _ _ _ r h => by simp [trans_Check.j0] at h
  | k + 1 => by
    have ih0 := trans_Check.mono_l k
    · intro y0 y1 y2 y3 y4
      unfold trans_Check.j0
      exact mo_
theorem trans_Check.mono : ∀ a0 a1 a2 a3 k, LeO (trans_Check.f k a0 a1 a2 a3) (trans_Check.f (k + 1) a0 a1 a2 a3) := by
  intro a0 a1 a2 a3 k
  have ih0 := trans_Check.mono_l k
  unfold trans_Check.f
  exact mo_
instance trans_Check.lc : ∀ a0 a1 a2 a3 k, LeC (trans_Check.f k a0 a1 a2 a3) (trans_Check.f (k + 1) a0 a1 a2 a3) := fun a0 a1 a2 a3 k => ⟨trans_Check.mono a0 a1 a2 a3 k⟩
set_option maxHeartbeats 8000000 in
set_option maxRecDepth 100000 in
theorem trans_Check.calls (k : Nat) (a0_0 : ByteArray) (A0_1 : Option Addr) (c0_1 : Nat) (l0_1 : List (S78)) (A0_2 : Option Addr) (c0_2 : Nat) (l0_2 : List (S76)) (a0_3 : ByteArray) (r : Int) (w : World) (hr0_1 : Kd.C k78 w A0_1 l0_1.length l0_1) (hc0_1 : l0_1.length ≤ c0_1) (hr0_2 : Kd.C k76 w A0_2 l0_2.length l0_2) (hc0_2 : l0_2.length ≤ c0_2) (h : trans_Check.f k a0_0 l0_1 l0_2 a0_3 = some r) :
  Calls Tryz.prog 81 #[.agg #[.string a0_0, .slice A0_1 l0_1.length c0_1, .slice A0_2 l0_2.length c0_2, .string a0_3]] w fun e w' => e = .returned (.int .i64 r) ∧ Below w.heap.size w w' := by
 have hu54 := Tryz.underlying54
 have HR0_1 := Aside0.mk hr0_1
 have HC0_1 := Aside0.mk hc0_1
 clear hr0_1 hc0_1
 have HR0_2 := Aside0.mk hr0_2
 have HC0_2 := Aside0.mk hc0_2
 clear hr0_2 hc0_2
 have HB := Aside0.mk (Below.refl w.heap.size w)
 unfold trans_Check.f at h
 have HC2 := Aside0.mk h
 clear h
 go_enter Tryz.func81, Tryz.ntmps81
 go_upto_region 1 with (first | ((with_reducible refine gate_dst (N := 1) rfl ?_); refine bx_ HB (N := 1) (cs := #[.string a0_0, .slice A0_1 l0_1.length c0_1, .slice A0_2 l0_2.length c0_2, .string a0_3]) (t := 54) ?_; clear HB; intro gb209 w3 HB BK209 GW209 GE209))
 (try simp only [Act.put, sb_, s0_, s1_])
 go_cut [13] (fun v13 wc => ∃ (kq : Nat) (x13_1 : Bool), v13 = .bool x13_1 ∧ Aside0 (trans_Check.j0 kq x13_1 a0_0 l0_1 l0_2 a0_3 = some r) ∧ Aside0 (kq ≤ k) ∧ Aside0 (wc.heap[gb209]? = some (.cells #[.string a0_0, (.slice A0_1 l0_1.length c0_1), (.slice A0_2 l0_2.length c0_2), .string a0_3] 54 (0, 0))) ∧ Aside0 (Below w.heap.size w wc))
 case first =>
  have H := HC2.out
  clear HC2
  replace H := bi_ H; obtain ⟨t210, A4, H⟩ := H
  replace H := ib_ H; obtain ⟨rfl, H⟩ | ⟨rfl, H⟩ := H
  ·have H' := Aside0.mk H
   clear H
   obtain ⟨z11_0, z11_1, z11_2, z11_3, y11_0, y11_1, y11_2, y11_3⟩ := cw4_ BK209.out
   go_wp2_with (first | ((with_reducible refine gate_callee (f := 104) rfl ?_); refine gl_ (some 6) Tryz.func104 #[.string a0_0] ?_; (with_reducible refine cm_ (trans_named.calls k a0_0 false _ A4.out) ?_); intro w12 hb; refine ⟨_, rfl, ?_⟩; replace BK209 := tb_ BK209 hb; replace HB := ts_ HB hb; clear hb))
   go_meet
   case rel => exact ⟨_, (true), rl_, H', ⟨km_⟩, ⟨grw BK209.out⟩, ⟨bw_⟩⟩
  replace H := bi_ H; obtain ⟨t211, A6, H⟩ := H
  have H' := Aside0.mk H
  clear H
  obtain ⟨z7_0, z7_1, z7_2, z7_3, y7_0, y7_1, y7_2, y7_3⟩ := cw4_ BK209.out
  go_wp2_with (first | ((with_reducible refine gate_callee (f := 104) rfl ?_); refine gl_ (some 6) Tryz.func104 #[.string a0_0] ?_; (with_reducible refine cm_ (trans_named.calls k a0_0 true _ A4.out) ?_); intro w8 hb; refine ⟨_, rfl, ?_⟩; replace BK209 := tb_ BK209 hb; replace HB := ts_ HB hb; clear hb; obtain ⟨z9_0, z9_1, z9_2, z9_3, y9_0, y9_1, y9_2, y9_3⟩ := cw4_ BK209.out) | (go_at_call 104; (with_reducible refine cm_ (trans_named.calls k a0_3 t211 _ A6.out) ?_); intro w10 hb; replace BK209 := tb_ BK209 hb; replace HB := ts_ HB hb; clear hb))
  go_meet
  case rel => exact ⟨_, (!t211), rl_, H', ⟨km_⟩, ⟨grw BK209.out⟩, ⟨bw_⟩⟩
 case rest =>
  clear HC2
  obtain ⟨kq, x13_1, rfl, HA, HJ1, BK209, HB⟩ := hcut
  cases kq with
  | zero => exact absurd HA.out (by simp [trans_Check.j0])
  | succ kj1 =>
   have H := HA.out
   clear HA
   simp only [trans_Check.j0] at H
   replace H := ie_ H; obtain ⟨rfl, H⟩ | ⟨rfl, H⟩ := H
   ·obtain rfl := Option.some.inj H
    go_wp2
    go_ret
    exact ⟨rv_, bw_⟩
   replace H := ic_ H; obtain ⟨c14, H⟩ | ⟨c14, H⟩ := H
   ·have c14b0 : decide (0 < (l0_1.length : Int)) = false := decide_eq_false c14
    have c14b1 : decide (0 < l0_1.length) = false := decide_eq_false (by omega)
    clear c14
    replace H := bi_ H; obtain ⟨t214, A24, H⟩ := H
    obtain rfl := Option.some.inj H
    obtain ⟨z25_0, z25_1, z25_2, z25_3, y25_0, y25_1, y25_2, y25_3⟩ := cw4_ BK209.out
    go_wp2_with (first | ((with_reducible refine gate_callee (f := 78) rfl ?_); refine gl_ (some 26) Tryz.func78 #[.slice A0_2 l0_2.length c0_2] ?_; (with_reducible refine cm_ (act_Check.calls kj1 _ _ l0_2 t214 _ (kc_ HR0_2 HB) HC0_2.out A24.out) ?_); intro w26 hb; refine ⟨_, rfl, ?_⟩; replace BK209 := tb_ BK209 hb; replace HB := ts_ HB hb; clear hb))
    go_ret
    exact ⟨rv_, bw_⟩

   have c14b0 : decide (0 < (l0_1.length : Int)) = true := decide_eq_true c14
   have c14b1 : decide (0 < l0_1.length) = true := decide_eq_true (by omega)
   clear c14
   replace H := bi_ H; obtain ⟨t212, A15, H⟩ := H
   replace H := ic_ H; obtain ⟨c16, H⟩ | ⟨c16, H⟩ := H
   ·have c16b0 : (t212 == 0) = false := beq_eq_false_iff_ne.mpr c16
    have c16b1 : (t212 != 0) = true := bne_iff_ne.mpr c16
    obtain rfl := Option.some.inj H
    obtain ⟨z22_0, z22_1, z22_2, z22_3, y22_0, y22_1, y22_2, y22_3⟩ := cw4_ BK209.out
    go_wp2_with (first | ((with_reducible refine gate_callee (f := 105) rfl ?_); refine gl_ (some 20) Tryz.func105 #[.slice A0_1 l0_1.length c0_1] ?_; (with_reducible refine cm_ (term_Check.calls kj1 _ _ l0_1 t212 _ (kc_ HR0_1 HB) HC0_1.out A15.out) ?_); intro w23 hb; refine ⟨_, rfl, ?_⟩; replace BK209 := tb_ BK209 hb; replace HB := ts_ HB hb; clear hb))
    go_ret
    exact ⟨rv_, bw_⟩
   have c16b0 : (t212 == 0) = true := beq_iff_eq.mpr c16
   have c16b1 : (t212 != 0) = false := bne_eq_false_iff_eq.mpr c16
   clear c16
   replace H := bi_ H; obtain ⟨t213, A17, H⟩ := H
   obtain rfl := Option.some.inj H
   obtain ⟨z18_0, z18_1, z18_2, z18_3, y18_0, y18_1, y18_2, y18_3⟩ := cw4_ BK209.out
   go_wp2_with (first | ((with_reducible refine gate_callee (f := 105) rfl ?_); refine gl_ (some 20) Tryz.func105 #[.slice A0_1 l0_1.length c0_1] ?_; (with_reducible refine cm_ (term_Check.calls kj1 _ _ l0_1 t212 _ (kc_ HR0_1 HB) HC0_1.out A15.out) ?_); intro w19 hb; refine ⟨_, rfl, ?_⟩; replace BK209 := tb_ BK209 hb; replace HB := ts_ HB hb; clear hb; obtain ⟨z20_0, z20_1, z20_2, z20_3, y20_0, y20_1, y20_2, y20_3⟩ := cw4_ BK209.out) | ((with_reducible refine gate_callee (f := 78) rfl ?_); refine gl_ (some 26) Tryz.func78 #[.slice A0_2 l0_2.length c0_2] ?_; (with_reducible refine cm_ (act_Check.calls kj1 _ _ l0_2 t213 _ (kc_ HR0_2 HB) HC0_2.out A17.out) ?_); intro w21 hb; refine ⟨_, rfl, ?_⟩; replace BK209 := tb_ BK209 hb; replace HB := ts_ HB hb; clear hb))
   go_ret
   exact ⟨rv_, bw_⟩
/-! ### api_Trans_103: function 103 -/
open Go.Proofs.YtbkaiojofgmbnaaGreat.XFind in
set_option maxHeartbeats 2000000 in
set_option maxRecDepth 100000 in
theorem IndexFunc_Trans.calls (p : S54 → Bool) (g : Nat) (lb : Array Value) (eg : ∀ args w, (callFunc g args).run Tryz.prog w = .ok (.enter g args) w) (A0 : Option Addr) (c0 : Nat) (l0 : List (S54)) (w : World) (hr0 : Kd.C k54 w A0 l0.length l0)
    (hp : ∀ W, Below w.heap.size w W → ∀ (x : S54), x ∈ l0 → ∀ (A1 : Option Addr) (c1 : Nat) (A2 : Option Addr) (c2 : Nat), k54.K W x [.string x.f0, .slice A1 x.f1.length c1, .slice A2 x.f2.length c2, .string x.f3] → Calls Tryz.prog g (#[.agg #[.string x.f0, .slice A1 x.f1.length c1, .slice A2 x.f2.length c2, .string x.f3]] ++ lb) W fun e w' => e = .returned (.bool (p x)) ∧ Below w.heap.size w w') :
    Calls Tryz.prog 103 #[.slice A0 l0.length c0, .func (.func g) #[] lb] w fun e w' => e = .returned (.int .i64 (idxF p l0)) ∧ Below w.heap.size w w' := by
  have hbig := hr0.2.1
  have HR := Aside0.mk hr0
  have HPF := Aside0.mk hp
  clear hr0 hp
  have hu := Tryz.underlying54
  go_enter Tryz.func103, Tryz.ntmps103
  go_wp2
  go_loopg [8] l0.length (fun kq v8 wr => ∃ n : Nat, Aside0 (n ≤ l0.length) ∧ Aside0 (l0.length - n = kq) ∧ v8 = .int .i64 (n : Int) ∧ Aside0 (Below w.heap.size w wr) ∧ Aside0 (∀ j : Nat, j < n → p (l0.getD j z54) = false))
  case atStart => exact ⟨0, ⟨Nat.zero_le _⟩, ⟨by omega⟩, rfl, ⟨Below.refl _ _⟩, ⟨fun j hj => absurd hj (Nat.not_lt_zero _)⟩⟩
  case round =>
    obtain ⟨n, HN, HK, rfl, HB, HP⟩ := hrel
    by_cases hlt : n < l0.length
    · have hlt' : decide ((n : Int) < (l0.length : Int)) = true := decide_eq_true (by omega)
      have hC := Kd.C_below HR.out HB.out
      obtain ⟨ad, A1, c1, A2, c2, e1, hx0, hx1, hx2, hx3, hl1, hg1, hl2, hg2⟩ := at_T54 hC (n : Int) (by omega) (by omega)
      subst e1
      rw [Int.toNat_natCast] at hx0 hx1 hx2 hx3
      have hy0 : rd_T54 l0 (n : Int) = l0.getD n z54 := by unfold rd_T54; rw [Int.toNat_natCast]
      rw [hy0] at hx0 hx1 hx2 hx3 hl1 hg1 hl2 hg2
      have hmem : l0.getD n z54 ∈ l0 := by simp only [List.getD, List.getElem?_eq_getElem hlt, Option.getD_some]; exact List.getElem_mem hlt
      have hcall := HPF.out wr HB.out (l0.getD n z54) hmem A1 c1 A2 c2 (k54_mk _ _ hl1 hg1 hl2 hg2)
      generalize hy : l0.getD n z54 = y at *
      have HY := Aside0.mk hy
      clear hy hC hy0 hmem hl1 hg1 hl2 hg2
      cases hq : p y with
      | true =>
        rw [hq] at hcall
        have HC := Aside0.mk hcall
        have HQ := Aside0.mk hq
        clear hcall hq
        go_wp2_with fail
        refine HC.out.mono ?_
        rintro e w' ⟨rfl, hb'⟩
        go_wp2
        go_ret
        refine ⟨?_, hb'⟩
        rw [idxF_hit p l0 z54 n hlt (by rw [HY.out]; exact HQ.out) HP.out]
        rfl
      | false =>
        rw [hq] at hcall
        have HC := Aside0.mk hcall
        have HQ := Aside0.mk hq
        clear hcall hq
        go_wp2_with fail
        refine HC.out.mono ?_
        rintro e w' ⟨rfl, hb'⟩
        go_wp2
        go_roundg (l0.length - (n + 1))
        case measure => have := HK.out; omega
        case rel =>
          refine ⟨n + 1, ⟨hlt⟩, ⟨rfl⟩, by go_num, ⟨hb'⟩, ⟨fun j hj => ?_⟩⟩
          by_cases e : j = n
          · subst e; rw [HY.out]; exact HQ.out
          · exact HP.out j (by omega)
    · have hlt' : decide ((n : Int) < (l0.length : Int)) = false := decide_eq_false (by omega)
      have hn : n = l0.length := by have := HN.out; omega
      have HNN := Aside0.mk hn
      clear hn
      go_wp2
      go_ret
      exact ⟨by rw [idxF_miss p l0 z54 (fun j hj => HP.out j (by have := HNN.out; omega))]; rfl, HB.out⟩


/-! ### api_Trans_79: function 79 -/
-- USES slices.IndexFunc[[]semblance/api.Trans,semblance/api.Trans]
open Go.Proofs.YtbkaiojofgmbnaaGreat.XFind in
set_option maxHeartbeats 2000000 in
theorem ContainsFunc_Trans.calls (p : S54 → Bool) (g : Nat) (lb : Array Value) (eg : ∀ args w, (callFunc g args).run Tryz.prog w = .ok (.enter g args) w) (A0 : Option Addr) (c0 : Nat) (l0 : List (S54)) (w : World) (hr0 : Kd.C k54 w A0 l0.length l0)
    (hp : ∀ W, Below w.heap.size w W → ∀ (x : S54), x ∈ l0 → ∀ (A1 : Option Addr) (c1 : Nat) (A2 : Option Addr) (c2 : Nat), k54.K W x [.string x.f0, .slice A1 x.f1.length c1, .slice A2 x.f2.length c2, .string x.f3] → Calls Tryz.prog g (#[.agg #[.string x.f0, .slice A1 x.f1.length c1, .slice A2 x.f2.length c2, .string x.f3]] ++ lb) W fun e w' => e = .returned (.bool (p x)) ∧ Below w.heap.size w w') :
    Calls Tryz.prog 79 #[.slice A0 l0.length c0, .func (.func g) #[] lb] w fun e w' => e = .returned (.bool (l0.any p)) ∧ Below w.heap.size w w' := by
  have hcall := IndexFunc_Trans.calls p g lb eg A0 c0 l0 w hr0 hp
  have HANY := Aside0.mk (idxF_any p l0)
  generalize idxF p l0 = i at hcall HANY
  have HC := Aside0.mk hcall
  clear hp hr0 hcall
  go_enter Tryz.func79, Tryz.ntmps79
  go_wp2_with (go_at_call 103; refine HC.out.mono ?_; rintro e w' ⟨rfl, hb'⟩)
  go_ret
  exact ⟨by rw [← HANY.out]; rfl, hb'⟩
-- FAKE semblance/print.badState$1
-- USES semblance/trans.Check
def print_badState1.f (k : Nat) (a0 : ByteArray) (l1 : List (S78)) (l2 : List (S76)) (a3 : ByteArray) : Option Bool := (trans_Check.f k a0 l1 l2 a3).bind fun t => some (t != 0)
theorem print_badState1.mono : ∀ a0 l1 l2 a3 k, LeO (print_badState1.f k a0 l1 l2 a3) (print_badState1.f (k + 1) a0 l1 l2 a3) := fun a0 l1 l2 a3 k => LeO.bind (trans_Check.mono a0 l1 l2 a3 k) (fun _ => LeO.refl _)
instance print_badState1.lc : ∀ a0 l1 l2 a3 k, LeC (print_badState1.f k a0 l1 l2 a3) (print_badState1.f (k + 1) a0 l1 l2 a3) := fun a0 l1 l2 a3 k => ⟨print_badState1.mono a0 l1 l2 a3 k⟩
set_option maxHeartbeats 2000000 in
set_option maxRecDepth 100000 in
theorem print_badState1.calls (k : Nat) (a0 : ByteArray) (A1 : Option Addr) (c1 : Nat) (l1 : List (S78)) (A2 : Option Addr) (c2 : Nat) (l2 : List (S76)) (a3 : ByteArray) (r : Bool) (w : World) (hr1 : Kd.C k78 w A1 l1.length l1) (hc1 : l1.length ≤ c1) (hr2 : Kd.C k76 w A2 l2.length l2) (hc2 : l2.length ≤ c2) (h : print_badState1.f k a0 l1 l2 a3 = some r) :
    Calls Tryz.prog 80 #[.agg #[.string a0, .slice A1 l1.length c1, .slice A2 l2.length c2, .string a3]] w fun e w' => e = .returned (.bool r) ∧ Below w.heap.size w w' := by
  have hu := Tryz.underlying54
  obtain ⟨t, ht, h⟩ := Option.bind_eq_some_iff.mp h
  obtain rfl := Option.some.inj h
  have HT := Aside0.mk ht
  have H1 := Aside0.mk hr1
  have H2 := Aside0.mk hr2
  have HC := Aside0.mk (And.intro hc1 hc2)
  clear ht h hr1 hr2 hc1 hc2
  go_enter Tryz.func80, Tryz.ntmps80
  go_wp2_with (first | ((with_reducible refine gate_dst (N := 1) rfl ?_); refine box_event ?hg (N := 1) ?hd (cs := #[.string a0, .slice A1 l1.length c1, .slice A2 l2.length c2, .string a3]) (t := 54) ?hr ?_; (case hd => rfl); (case hg => rfl); (case hr => first | (go_simp; done) | (go_simp; rfl)); intro gb hg w3 hbox hb; have HB := Aside0.mk hb; obtain ⟨z0, z1, z2, z3⟩ := cz4_ hbox; clear hbox hb hg) | (go_at_call 81; (with_reducible refine (trans_Check.calls k a0 _ _ l1 _ _ l2 a3 t _ (Kd.C_below H1.out HB.out) HC.out.1 (Kd.C_below H2.out HB.out) HC.out.2 HT.out).mono ?_); rintro e w1 ⟨rfl, hb⟩))
  go_ret
  exact ⟨rfl, below_step HB.out hb⟩
def api_Trans_79.f (k : Nat) (l0 : List (S54)) (_ : Int) : Option Bool := Go.Proofs.YtbkaiojofgmbnaaGreat.XShort.anyO l0 (fun x => print_badState1.f k x.f0 x.f1 x.f2 x.f3)
theorem api_Trans_79.mono : ∀ a0 a1 k, LeO (api_Trans_79.f k a0 a1) (api_Trans_79.f (k + 1) a0 a1) := fun a0 a1 k => Go.Proofs.YtbkaiojofgmbnaaGreat.XShort.anyO_mono (fun x _ => print_badState1.mono _ _ _ _ k)
instance api_Trans_79.lc : ∀ a0 a1 k, LeC (api_Trans_79.f k a0 a1) (api_Trans_79.f (k + 1) a0 a1) := fun a0 a1 k => ⟨api_Trans_79.mono a0 a1 k⟩
theorem api_Trans_79.calls (k : Nat) (A0 : Option Addr) (c0 : Nat) (l0 : List (S54)) (a1 : Int) (r : Bool) (w : World) (hr0 : Kd.C k54 w A0 l0.length l0) (hc0 : l0.length ≤ c0)
    (h : api_Trans_79.f k l0 a1 = some r) :
    Calls Tryz.prog 79 #[.slice A0 l0.length c0, .func (.func 80) #[] #[]] w fun e w' => e = .returned (.bool r) ∧ Below w.heap.size w w' := by
  obtain ⟨ha, rfl⟩ := Go.Proofs.YtbkaiojofgmbnaaGreat.XShort.anyO_some h
  have eg := Go.Proofs.enters_of Tryz.func80 (by kernel_rfl) rfl
  exact ContainsFunc_Trans.calls _ _ #[] eg A0 c0 l0 w hr0 fun W hW x hx A1 c1 A2 c2 hK => by
    obtain ⟨P1, p1, P2, p2, e, l1, g1, l2, g2⟩ := k54_open hK
    simp at e
    obtain ⟨⟨rfl, rfl⟩, rfl, rfl⟩ := e
    rw [Array.append_empty]
    exact (print_badState1.calls k x.f0 _ _ x.f1 _ _ x.f2 x.f3 _ W g1 l1 g2 l2 (ha x hx)).mono fun e w' ⟨he, hw⟩ => ⟨he, below_then hW hW.size hw⟩


/-! ### print_badState: function 50 -/
def print_badState.f (k : Nat) (a0_0 : ByteArray) (a0_1 : Int) (a0_2 : Int) (l0_3 : List (S76)) (l0_4 : List (S76)) (l0_5 : List (S54)) : Option (Bool) := (names_Is.f k a0_0).bind fun t216 => (if t216 = true then ((act_Check.f k l0_3).bind fun t217 => (if t217 = 0 then ((act_Check.f k l0_4).bind fun t218 => (if t218 = 0 then (if (l0_5.length : Int) > 16 then (some true) else ((api_Trans_79.f k l0_5 0).bind fun t219 => (some t219))) else (some true))) else (some true))) else (some true))
theorem print_badState.mono : ∀ a0 a1 a2 a3 a4 a5 k, LeO (print_badState.f k a0 a1 a2 a3 a4 a5) (print_badState.f (k + 1) a0 a1 a2 a3 a4 a5) := by
  intro a0 a1 a2 a3 a4 a5 k
  unfold print_badState.f
  exact mo_
instance print_badState.lc : ∀ a0 a1 a2 a3 a4 a5 k, LeC (print_badState.f k a0 a1 a2 a3 a4 a5) (print_badState.f (k + 1) a0 a1 a2 a3 a4 a5) := fun a0 a1 a2 a3 a4 a5 k => ⟨print_badState.mono a0 a1 a2 a3 a4 a5 k⟩
set_option maxHeartbeats 8000000 in
set_option maxRecDepth 100000 in
theorem print_badState.calls (k : Nat) (a0_0 : ByteArray) (a0_1 : Int) (a0_2 : Int) (A0_3 : Option Addr) (c0_3 : Nat) (l0_3 : List (S76)) (A0_4 : Option Addr) (c0_4 : Nat) (l0_4 : List (S76)) (A0_5 : Option Addr) (c0_5 : Nat) (l0_5 : List (S54)) (r : Bool) (w : World) (hr0_3 : Kd.C k76 w A0_3 l0_3.length l0_3) (hc0_3 : l0_3.length ≤ c0_3) (hr0_4 : Kd.C k76 w A0_4 l0_4.length l0_4) (hc0_4 : l0_4.length ≤ c0_4) (hr0_5 : Kd.C k54 w A0_5 l0_5.length l0_5) (hc0_5 : l0_5.length ≤ c0_5) (h : print_badState.f k a0_0 a0_1 a0_2 l0_3 l0_4 l0_5 = some r) :
  Calls Tryz.prog 50 #[.agg #[.string a0_0, .int .i64 a0_1, .int .i64 a0_2, .slice A0_3 l0_3.length c0_3, .slice A0_4 l0_4.length c0_4, .slice A0_5 l0_5.length c0_5]] w fun e w' => e = .returned (.bool r) ∧ Below w.heap.size w w' := by
 have hu46 := Tryz.underlying46
 have HR0_3 := Aside0.mk hr0_3
 have HC0_3 := Aside0.mk hc0_3
 clear hr0_3 hc0_3
 have HR0_4 := Aside0.mk hr0_4
 have HC0_4 := Aside0.mk hc0_4
 clear hr0_4 hc0_4
 have HR0_5 := Aside0.mk hr0_5
 have HC0_5 := Aside0.mk hc0_5
 clear hr0_5 hc0_5
 have HB := Aside0.mk (Below.refl w.heap.size w)
 unfold print_badState.f at h
 have H := h
 clear h
 replace H := bi_ H; obtain ⟨t216, A2, H⟩ := H
 replace H := ib_ H; obtain ⟨rfl, H⟩ | ⟨rfl, H⟩ := H
 ·obtain rfl := Option.some.inj H
  go_enter Tryz.func50, Tryz.ntmps50
  go_wp2_with (first | ((with_reducible refine gate_dst (N := 1) rfl ?_); (try (refine gate_guard (by rfl) ?_; dsimp only)); refine bx_ HB (N := 1) (cs := #[.string a0_0, .int .i64 a0_1, .int .i64 a0_2, .slice A0_3 l0_3.length c0_3, .slice A0_4 l0_4.length c0_4, .slice A0_5 l0_5.length c0_5]) (t := 46) ?_; clear HB; intro gb215 w39 HB BK215 GW215 GE215; obtain ⟨z40_0, z40_1, z40_2, z40_3, z40_4, z40_5, y40_0, y40_1, y40_2, y40_3, y40_4, y40_5⟩ := cw6_ BK215.out) | ((with_reducible refine gate_callee (f := 43) rfl ?_); refine gl_ (some 5) Tryz.func43 #[.string a0_0] ?_; (with_reducible refine cm_ (names_Is.calls k a0_0 false _ A2.out) ?_); intro w41 hb; refine ⟨_, rfl, ?_⟩; replace BK215 := tb_ BK215 hb; replace HB := ts_ HB hb; clear hb))
  go_ret
  exact ⟨rv_, bw_⟩

 replace H := bi_ H; obtain ⟨t217, A4, H⟩ := H
 replace H := ic_ H; obtain ⟨c5, H⟩ | ⟨c5, H⟩ := H
 ·have c5b0 : (t217 == 0) = false := beq_eq_false_iff_ne.mpr c5
  have c5b1 : (t217 != 0) = true := bne_iff_ne.mpr c5
  obtain rfl := Option.some.inj H
  go_enter Tryz.func50, Tryz.ntmps50
  go_wp2_with (first | ((with_reducible refine gate_dst (N := 1) rfl ?_); (try (refine gate_guard (by rfl) ?_; dsimp only)); refine bx_ HB (N := 1) (cs := #[.string a0_0, .int .i64 a0_1, .int .i64 a0_2, .slice A0_3 l0_3.length c0_3, .slice A0_4 l0_4.length c0_4, .slice A0_5 l0_5.length c0_5]) (t := 46) ?_; clear HB; intro gb215 w34 HB BK215 GW215 GE215; obtain ⟨z35_0, z35_1, z35_2, z35_3, z35_4, z35_5, y35_0, y35_1, y35_2, y35_3, y35_4, y35_5⟩ := cw6_ BK215.out) | ((with_reducible refine gate_callee (f := 43) rfl ?_); refine gl_ (some 5) Tryz.func43 #[.string a0_0] ?_; (with_reducible refine cm_ (names_Is.calls k a0_0 true _ A2.out) ?_); intro w36 hb; refine ⟨_, rfl, ?_⟩; replace BK215 := tb_ BK215 hb; replace HB := ts_ HB hb; clear hb; obtain ⟨z37_0, z37_1, z37_2, z37_3, z37_4, z37_5, y37_0, y37_1, y37_2, y37_3, y37_4, y37_5⟩ := cw6_ BK215.out) | (go_at_call 78; (with_reducible refine cm_ (act_Check.calls k _ _ l0_3 t217 _ (kc_ HR0_3 HB) HC0_3.out A4.out) ?_); intro w38 hb; replace BK215 := tb_ BK215 hb; replace HB := ts_ HB hb; clear hb))
  go_ret
  exact ⟨rv_, bw_⟩
 have c5b0 : (t217 == 0) = true := beq_iff_eq.mpr c5
 have c5b1 : (t217 != 0) = false := bne_eq_false_iff_eq.mpr c5
 clear c5
 replace H := bi_ H; obtain ⟨t218, A6, H⟩ := H
 replace H := ic_ H; obtain ⟨c7, H⟩ | ⟨c7, H⟩ := H
 ·have c7b0 : (t218 == 0) = false := beq_eq_false_iff_ne.mpr c7
  have c7b1 : (t218 != 0) = true := bne_iff_ne.mpr c7
  obtain rfl := Option.some.inj H
  go_enter Tryz.func50, Tryz.ntmps50
  go_wp2_with (first | ((with_reducible refine gate_dst (N := 1) rfl ?_); (try (refine gate_guard (by rfl) ?_; dsimp only)); refine bx_ HB (N := 1) (cs := #[.string a0_0, .int .i64 a0_1, .int .i64 a0_2, .slice A0_3 l0_3.length c0_3, .slice A0_4 l0_4.length c0_4, .slice A0_5 l0_5.length c0_5]) (t := 46) ?_; clear HB; intro gb215 w27 HB BK215 GW215 GE215; obtain ⟨z28_0, z28_1, z28_2, z28_3, z28_4, z28_5, y28_0, y28_1, y28_2, y28_3, y28_4, y28_5⟩ := cw6_ BK215.out) | ((with_reducible refine gate_callee (f := 43) rfl ?_); refine gl_ (some 5) Tryz.func43 #[.string a0_0] ?_; (with_reducible refine cm_ (names_Is.calls k a0_0 true _ A2.out) ?_); intro w29 hb; refine ⟨_, rfl, ?_⟩; replace BK215 := tb_ BK215 hb; replace HB := ts_ HB hb; clear hb; obtain ⟨z30_0, z30_1, z30_2, z30_3, z30_4, z30_5, y30_0, y30_1, y30_2, y30_3, y30_4, y30_5⟩ := cw6_ BK215.out) | (go_at_call 78; (with_reducible refine cm_ (act_Check.calls k _ _ l0_3 t217 _ (kc_ HR0_3 HB) HC0_3.out A4.out) ?_); intro w31 hb; replace BK215 := tb_ BK215 hb; replace HB := ts_ HB hb; clear hb; obtain ⟨z32_0, z32_1, z32_2, z32_3, z32_4, z32_5, y32_0, y32_1, y32_2, y32_3, y32_4, y32_5⟩ := cw6_ BK215.out) | (go_at_call 78; (with_reducible refine cm_ (act_Check.calls k _ _ l0_4 t218 _ (kc_ HR0_4 HB) HC0_4.out A6.out) ?_); intro w33 hb; replace BK215 := tb_ BK215 hb; replace HB := ts_ HB hb; clear hb))
  go_ret
  exact ⟨rv_, bw_⟩
 have c7b0 : (t218 == 0) = true := beq_iff_eq.mpr c7
 have c7b1 : (t218 != 0) = false := bne_eq_false_iff_eq.mpr c7
 clear c7
 replace H := id_ H; obtain ⟨c8, H⟩ | ⟨c8, H⟩ := H
 ·have c8b0 : decide (16 < (l0_5.length : Int)) = true := decide_eq_true c8
  have c8b1 : decide (16 < l0_5.length) = true := decide_eq_true (by omega)
  clear c8
  obtain rfl := Option.some.inj H
  go_enter Tryz.func50, Tryz.ntmps50
  go_wp2_with (first | ((with_reducible refine gate_dst (N := 1) rfl ?_); (try (refine gate_guard (by rfl) ?_; dsimp only)); refine bx_ HB (N := 1) (cs := #[.string a0_0, .int .i64 a0_1, .int .i64 a0_2, .slice A0_3 l0_3.length c0_3, .slice A0_4 l0_4.length c0_4, .slice A0_5 l0_5.length c0_5]) (t := 46) ?_; clear HB; intro gb215 w9 HB BK215 GW215 GE215; obtain ⟨z10_0, z10_1, z10_2, z10_3, z10_4, z10_5, y10_0, y10_1, y10_2, y10_3, y10_4, y10_5⟩ := cw6_ BK215.out) | ((with_reducible refine gate_callee (f := 43) rfl ?_); refine gl_ (some 5) Tryz.func43 #[.string a0_0] ?_; (with_reducible refine cm_ (names_Is.calls k a0_0 true _ A2.out) ?_); intro w11 hb; refine ⟨_, rfl, ?_⟩; replace BK215 := tb_ BK215 hb; replace HB := ts_ HB hb; clear hb; obtain ⟨z12_0, z12_1, z12_2, z12_3, z12_4, z12_5, y12_0, y12_1, y12_2, y12_3, y12_4, y12_5⟩ := cw6_ BK215.out) | (go_at_call 78; (with_reducible refine cm_ (act_Check.calls k _ _ l0_3 t217 _ (kc_ HR0_3 HB) HC0_3.out A4.out) ?_); intro w13 hb; replace BK215 := tb_ BK215 hb; replace HB := ts_ HB hb; clear hb; obtain ⟨z14_0, z14_1, z14_2, z14_3, z14_4, z14_5, y14_0, y14_1, y14_2, y14_3, y14_4, y14_5⟩ := cw6_ BK215.out) | (go_at_call 78; (with_reducible refine cm_ (act_Check.calls k _ _ l0_4 t218 _ (kc_ HR0_4 HB) HC0_4.out A6.out) ?_); intro w15 hb; replace BK215 := tb_ BK215 hb; replace HB := ts_ HB hb; clear hb; obtain ⟨z16_0, z16_1, z16_2, z16_3, z16_4, z16_5, y16_0, y16_1, y16_2, y16_3, y16_4, y16_5⟩ := cw6_ BK215.out))
  go_ret
  exact ⟨rv_, bw_⟩
 have c8b0 : decide (16 < (l0_5.length : Int)) = false := decide_eq_false c8
 have c8b1 : decide (16 < l0_5.length) = false := decide_eq_false (by omega)
 clear c8
 replace H := bi_ H; obtain ⟨t219, A17, H⟩ := H
 obtain rfl := Option.some.inj H
 go_enter Tryz.func50, Tryz.ntmps50
 go_wp2_with (first | ((with_reducible refine gate_dst (N := 1) rfl ?_); (try (refine gate_guard (by rfl) ?_; dsimp only)); refine bx_ HB (N := 1) (cs := #[.string a0_0, .int .i64 a0_1, .int .i64 a0_2, .slice A0_3 l0_3.length c0_3, .slice A0_4 l0_4.length c0_4, .slice A0_5 l0_5.length c0_5]) (t := 46) ?_; clear HB; intro gb215 w18 HB BK215 GW215 GE215; obtain ⟨z19_0, z19_1, z19_2, z19_3, z19_4, z19_5, y19_0, y19_1, y19_2, y19_3, y19_4, y19_5⟩ := cw6_ BK215.out) | ((with_reducible refine gate_callee (f := 43) rfl ?_); refine gl_ (some 5) Tryz.func43 #[.string a0_0] ?_; (with_reducible refine cm_ (names_Is.calls k a0_0 true _ A2.out) ?_); intro w20 hb; refine ⟨_, rfl, ?_⟩; replace BK215 := tb_ BK215 hb; replace HB := ts_ HB hb; clear hb; obtain ⟨z21_0, z21_1, z21_2, z21_3, z21_4, z21_5, y21_0, y21_1, y21_2, y21_3, y21_4, y21_5⟩ := cw6_ BK215.out) | (go_at_call 78; (with_reducible refine cm_ (act_Check.calls k _ _ l0_3 t217 _ (kc_ HR0_3 HB) HC0_3.out A4.out) ?_); intro w22 hb; replace BK215 := tb_ BK215 hb; replace HB := ts_ HB hb; clear hb; obtain ⟨z23_0, z23_1, z23_2, z23_3, z23_4, z23_5, y23_0, y23_1, y23_2, y23_3, y23_4, y23_5⟩ := cw6_ BK215.out) | (go_at_call 78; (with_reducible refine cm_ (act_Check.calls k _ _ l0_4 t218 _ (kc_ HR0_4 HB) HC0_4.out A6.out) ?_); intro w24 hb; replace BK215 := tb_ BK215 hb; replace HB := ts_ HB hb; clear hb; obtain ⟨z25_0, z25_1, z25_2, z25_3, z25_4, z25_5, y25_0, y25_1, y25_2, y25_3, y25_4, y25_5⟩ := cw6_ BK215.out) | ((with_reducible refine gate_callee (f := 79) rfl ?_); refine gl_ (some 27) Tryz.func79 #[.slice A0_5 l0_5.length c0_5, .func (.func 80) #[] #[]] ?_; (with_reducible refine cm_ (api_Trans_79.calls k _ _ l0_5 0 t219 _ (kc_ HR0_5 HB) HC0_5.out A17.out) ?_); intro w26 hb; refine ⟨_, rfl, ?_⟩; replace BK215 := tb_ BK215 hb; replace HB := ts_ HB hb; clear hb))
 go_ret
 exact ⟨rv_, bw_⟩
/-! ### api_State_77: function 77 -/
open Go.Proofs.YtbkaiojofgmbnaaGreat.XFind in
set_option maxHeartbeats 2000000 in
set_option maxRecDepth 100000 in
theorem IndexFunc_State.calls (p : S46 → Bool) (g : Nat) (lb : Array Value) (eg : ∀ args w, (callFunc g args).run Tryz.prog w = .ok (.enter g args) w) (A0 : Option Addr) (c0 : Nat) (l0 : List (S46)) (w : World) (hr0 : Kd.C k46 w A0 l0.length l0)
    (hp : ∀ W, Below w.heap.size w W → ∀ (x : S46), x ∈ l0 → ∀ (A3 : Option Addr) (c3 : Nat) (A4 : Option Addr) (c4 : Nat) (A5 : Option Addr) (c5 : Nat), k46.K W x [.string x.f0, .int .i64 x.f1, .int .i64 x.f2, .slice A3 x.f3.length c3, .slice A4 x.f4.length c4, .slice A5 x.f5.length c5] → Calls Tryz.prog g (#[.agg #[.string x.f0, .int .i64 x.f1, .int .i64 x.f2, .slice A3 x.f3.length c3, .slice A4 x.f4.length c4, .slice A5 x.f5.length c5]] ++ lb) W fun e w' => e = .returned (.bool (p x)) ∧ Below w.heap.size w w') :
    Calls Tryz.prog 77 #[.slice A0 l0.length c0, .func (.func g) #[] lb] w fun e w' => e = .returned (.int .i64 (idxF p l0)) ∧ Below w.heap.size w w' := by
  have hbig := hr0.2.1
  have HR := Aside0.mk hr0
  have HPF := Aside0.mk hp
  clear hr0 hp
  have hu := Tryz.underlying46
  go_enter Tryz.func77, Tryz.ntmps77
  go_wp2
  go_loopg [8] l0.length (fun kq v8 wr => ∃ n : Nat, Aside0 (n ≤ l0.length) ∧ Aside0 (l0.length - n = kq) ∧ v8 = .int .i64 (n : Int) ∧ Aside0 (Below w.heap.size w wr) ∧ Aside0 (∀ j : Nat, j < n → p (l0.getD j z46) = false))
  case atStart => exact ⟨0, ⟨Nat.zero_le _⟩, ⟨by omega⟩, rfl, ⟨Below.refl _ _⟩, ⟨fun j hj => absurd hj (Nat.not_lt_zero _)⟩⟩
  case round =>
    obtain ⟨n, HN, HK, rfl, HB, HP⟩ := hrel
    by_cases hlt : n < l0.length
    · have hlt' : decide ((n : Int) < (l0.length : Int)) = true := decide_eq_true (by omega)
      have hC := Kd.C_below HR.out HB.out
      obtain ⟨ad, A3, c3, A4, c4, A5, c5, e1, hx0, hx1, hx2, hx3, hx4, hx5, hl3, hg3, hl4, hg4, hl5, hg5⟩ := at_T46 hC (n : Int) (by omega) (by omega)
      subst e1
      rw [Int.toNat_natCast] at hx0 hx1 hx2 hx3 hx4 hx5
      have hy0 : rd_T46 l0 (n : Int) = l0.getD n z46 := by unfold rd_T46; rw [Int.toNat_natCast]
      rw [hy0] at hx0 hx1 hx2 hx3 hx4 hx5 hl3 hg3 hl4 hg4 hl5 hg5
      have hmem : l0.getD n z46 ∈ l0 := by simp only [List.getD, List.getElem?_eq_getElem hlt, Option.getD_some]; exact List.getElem_mem hlt
      have hcall := HPF.out wr HB.out (l0.getD n z46) hmem A3 c3 A4 c4 A5 c5 (k46_mk _ _ hl3 hg3 hl4 hg4 hl5 hg5)
      generalize hy : l0.getD n z46 = y at *
      have HY := Aside0.mk hy
      clear hy hC hy0 hmem hl3 hg3 hl4 hg4 hl5 hg5
      cases hq : p y with
      | true =>
        rw [hq] at hcall
        have HC := Aside0.mk hcall
        have HQ := Aside0.mk hq
        clear hcall hq
        go_wp2_with fail
        refine HC.out.mono ?_
        rintro e w' ⟨rfl, hb'⟩
        go_wp2
        go_ret
        refine ⟨?_, hb'⟩
        rw [idxF_hit p l0 z46 n hlt (by rw [HY.out]; exact HQ.out) HP.out]
        rfl
      | false =>
        rw [hq] at hcall
        have HC := Aside0.mk hcall
        have HQ := Aside0.mk hq
        clear hcall hq
        go_wp2_with fail
        refine HC.out.mono ?_
        rintro e w' ⟨rfl, hb'⟩
        go_wp2
        go_roundg (l0.length - (n + 1))
        case measure => have := HK.out; omega
        case rel =>
          refine ⟨n + 1, ⟨hlt⟩, ⟨rfl⟩, by go_num, ⟨hb'⟩, ⟨fun j hj => ?_⟩⟩
          by_cases e : j = n
          · subst e; rw [HY.out]; exact HQ.out
          · exact HP.out j (by omega)
    · have hlt' : decide ((n : Int) < (l0.length : Int)) = false := decide_eq_false (by omega)
      have hn : n = l0.length := by have := HN.out; omega
      have HNN := Aside0.mk hn
      clear hn
      go_wp2
      go_ret
      exact ⟨by rw [idxF_miss p l0 z46 (fun j hj => HP.out j (by have := HNN.out; omega))]; rfl, HB.out⟩


/-! ### api_State_49: function 49 -/
-- USES slices.IndexFunc[[]semblance/api.State,semblance/api.State]
open Go.Proofs.YtbkaiojofgmbnaaGreat.XFind in
set_option maxHeartbeats 2000000 in
theorem ContainsFunc_State.calls (p : S46 → Bool) (g : Nat) (lb : Array Value) (eg : ∀ args w, (callFunc g args).run Tryz.prog w = .ok (.enter g args) w) (A0 : Option Addr) (c0 : Nat) (l0 : List (S46)) (w : World) (hr0 : Kd.C k46 w A0 l0.length l0)
    (hp : ∀ W, Below w.heap.size w W → ∀ (x : S46), x ∈ l0 → ∀ (A3 : Option Addr) (c3 : Nat) (A4 : Option Addr) (c4 : Nat) (A5 : Option Addr) (c5 : Nat), k46.K W x [.string x.f0, .int .i64 x.f1, .int .i64 x.f2, .slice A3 x.f3.length c3, .slice A4 x.f4.length c4, .slice A5 x.f5.length c5] → Calls Tryz.prog g (#[.agg #[.string x.f0, .int .i64 x.f1, .int .i64 x.f2, .slice A3 x.f3.length c3, .slice A4 x.f4.length c4, .slice A5 x.f5.length c5]] ++ lb) W fun e w' => e = .returned (.bool (p x)) ∧ Below w.heap.size w w') :
    Calls Tryz.prog 49 #[.slice A0 l0.length c0, .func (.func g) #[] lb] w fun e w' => e = .returned (.bool (l0.any p)) ∧ Below w.heap.size w w' := by
  have hcall := IndexFunc_State.calls p g lb eg A0 c0 l0 w hr0 hp
  have HANY := Aside0.mk (idxF_any p l0)
  generalize idxF p l0 = i at hcall HANY
  have HC := Aside0.mk hcall
  clear hp hr0 hcall
  go_enter Tryz.func49, Tryz.ntmps49
  go_wp2_with (go_at_call 77; refine HC.out.mono ?_; rintro e w' ⟨rfl, hb'⟩)
  go_ret
  exact ⟨by rw [← HANY.out]; rfl, hb'⟩
-- FAKE semblance/print.badState
-- USES semblance/print.badState
def api_State_49.f (k : Nat) (l0 : List (S46)) (_ : Int) : Option Bool := Go.Proofs.YtbkaiojofgmbnaaGreat.XShort.anyO l0 (fun x => print_badState.f k x.f0 x.f1 x.f2 x.f3 x.f4 x.f5)
theorem api_State_49.mono : ∀ a0 a1 k, LeO (api_State_49.f k a0 a1) (api_State_49.f (k + 1) a0 a1) := fun a0 a1 k => Go.Proofs.YtbkaiojofgmbnaaGreat.XShort.anyO_mono (fun x _ => print_badState.mono _ _ _ _ _ _ k)
instance api_State_49.lc : ∀ a0 a1 k, LeC (api_State_49.f k a0 a1) (api_State_49.f (k + 1) a0 a1) := fun a0 a1 k => ⟨api_State_49.mono a0 a1 k⟩
theorem api_State_49.calls (k : Nat) (A0 : Option Addr) (c0 : Nat) (l0 : List (S46)) (a1 : Int) (r : Bool) (w : World) (hr0 : Kd.C k46 w A0 l0.length l0) (hc0 : l0.length ≤ c0)
    (h : api_State_49.f k l0 a1 = some r) :
    Calls Tryz.prog 49 #[.slice A0 l0.length c0, .func (.func 50) #[] #[]] w fun e w' => e = .returned (.bool r) ∧ Below w.heap.size w w' := by
  obtain ⟨ha, rfl⟩ := Go.Proofs.YtbkaiojofgmbnaaGreat.XShort.anyO_some h
  have eg := Go.Proofs.enters_of Tryz.func50 (by kernel_rfl) rfl
  exact ContainsFunc_State.calls _ _ #[] eg A0 c0 l0 w hr0 fun W hW x hx A3 c3 A4 c4 A5 c5 hK => by
    obtain ⟨P3, p3, P4, p4, P5, p5, e, l3, g3, l4, g4, l5, g5⟩ := k46_open hK
    simp at e
    obtain ⟨⟨rfl, rfl⟩, ⟨rfl, rfl⟩, rfl, rfl⟩ := e
    rw [Array.append_empty]
    exact (print_badState.calls k x.f0 x.f1 x.f2 _ _ x.f3 _ _ x.f4 _ _ x.f5 _ W g3 l3 g4 l4 g5 l5 (ha x hx)).mono fun e w' ⟨he, hw⟩ => ⟨he, below_then hW hW.size hw⟩


/-! ### print_Check: function 25 -/
def print_Check.j0 : Nat → Bool → ByteArray → List ByteArray → List (S50) → List (S46) → Option (Int)
  | 0, _, _, _, _, _ => none
  | k + 1, x3, x221000, x221001, x221002, x221003 => if x3 = true then (some 1) else ((slices_ContainsFunc_string_string.f k x221001 0).bind fun t223 => (if t223 = true then (some 1) else ((api_Var_47.f k x221002 0).bind fun t224 => (if t224 = true then (some 1) else ((api_State_49.f k x221003 0).bind fun t225 => (if t225 = true then (some 1) else (some 0)))))))
def print_Check.f (k : Nat) (a0_0 : ByteArray) (l0_1 : List ByteArray) (l0_2 : List (S50)) (l0_3 : List (S46)) : Option (Int) := (names_Is.f k a0_0).bind fun t221 => (if t221 = true then (if (l0_1.length : Int) > 8 then (print_Check.j0 k (decide ((l0_1.length : Int) > 8)) a0_0 l0_1 l0_2 l0_3) else (if (l0_2.length : Int) > 4 then (print_Check.j0 k (decide ((l0_2.length : Int) > 4)) a0_0 l0_1 l0_2 l0_3) else ((shape_Check.f l0_3).bind fun t222 => (print_Check.j0 k (t222 != 0) a0_0 l0_1 l0_2 l0_3)))) else (print_Check.j0 k (!t221) a0_0 l0_1 l0_2 l0_3))
theorem print_Check.mono_l : ∀ k, (∀ y0 y1 y2 y3 y4, LeO (print_Check.j0 k y0 y1 y2 y3 y4) (print_Check.j0 (k + 1) y0 y1 y2 y3 y4))
  | 0 => fun _ _ _ _ _ r h => by simp [print_Check.j0] at h
  | k + 1 => by
    have ih0 := print_Check.mono_l k
    · intro y0 y1 y2 y3 y4
      unfold print_Check.j0
      exact mo_
theorem print_Check.mono : ∀ a0 a1 a2 a3 k, LeO (print_Check.f k a0 a1 a2 a3) (print_Check.f (k + 1) a0 a1 a2 a3) := by
  intro a0 a1 a2 a3 k
  have ih0 := print_Check.mono_l k
  unfold print_Check.f
  exact mo_
instance print_Check.lc : ∀ a0 a1 a2 a3 k, LeC (print_Check.f k a0 a1 a2 a3) (print_Check.f (k + 1) a0 a1 a2 a3) := fun a0 a1 a2 a3 k => ⟨print_Check.mono a0 a1 a2 a3 k⟩
set_option maxHeartbeats 8000000 in
set_option maxRecDepth 100000 in
theorem print_Check.calls (k : Nat) (a0_0 : ByteArray) (A0_1 : Option Addr) (c0_1 : Nat) (l0_1 : List ByteArray) (A0_2 : Option Addr) (c0_2 : Nat) (l0_2 : List (S50)) (A0_3 : Option Addr) (c0_3 : Nat) (l0_3 : List (S46)) (r : Int) (w : World) (hr0_1 : Kd.C Kd.string w A0_1 l0_1.length l0_1) (hc0_1 : l0_1.length ≤ c0_1) (hr0_2 : Kd.C k50 w A0_2 l0_2.length l0_2) (hc0_2 : l0_2.length ≤ c0_2) (hr0_3 : Kd.C k46 w A0_3 l0_3.length l0_3) (hc0_3 : l0_3.length ≤ c0_3) (h : print_Check.f k a0_0 l0_1 l0_2 l0_3 = some r) :
  Calls Tryz.prog 25 #[.agg #[.string a0_0, .slice A0_1 l0_1.length c0_1, .slice A0_2 l0_2.length c0_2, .slice A0_3 l0_3.length c0_3]] w fun e w' => e = .returned (.int .i64 r) ∧ Below w.heap.size w w' := by
 have hu26 := Tryz.underlying26
 have HR0_1 := Aside0.mk hr0_1
 have HC0_1 := Aside0.mk hc0_1
 clear hr0_1 hc0_1
 have HR0_2 := Aside0.mk hr0_2
 have HC0_2 := Aside0.mk hc0_2
 clear hr0_2 hc0_2
 have HR0_3 := Aside0.mk hr0_3
 have HC0_3 := Aside0.mk hc0_3
 clear hr0_3 hc0_3
 have HB := Aside0.mk (Below.refl w.heap.size w)
 unfold print_Check.f at h
 have H := h
 clear h
 replace H := bi_ H; obtain ⟨t221, A2, H⟩ := H
 have HC3 := Aside0.mk H
 clear H
 go_enter Tryz.func25, Tryz.ntmps25
 go_upto_if 3 with (first | ((with_reducible refine gate_dst (N := 1) rfl ?_); refine bx_ HB (N := 1) (cs := #[.string a0_0, .slice A0_1 l0_1.length c0_1, .slice A0_2 l0_2.length c0_2, .slice A0_3 l0_3.length c0_3]) (t := 26) ?_; clear HB; intro gb220 w4 HB BK220 GW220 GE220; obtain ⟨z5_0, z5_1, z5_2, z5_3, y5_0, y5_1, y5_2, y5_3⟩ := cw4_ BK220.out) | ((with_reducible refine gate_callee (f := 43) rfl ?_); refine gl_ (some 6) Tryz.func43 #[.string a0_0] ?_; (with_reducible refine cm_ (names_Is.calls k a0_0 t221 _ A2.out) ?_); intro w6 hb; refine ⟨_, rfl, ?_⟩; replace BK220 := tb_ BK220 hb; replace HB := ts_ HB hb; clear hb))
 (try simp only [Act.put, sb_, s0_, s1_])
 go_cut [3] (fun v3 wc => ∃ (kq : Nat) (x3_2 : Bool), v3 = .bool x3_2 ∧ Aside0 (print_Check.j0 kq x3_2 a0_0 l0_1 l0_2 l0_3 = some r) ∧ Aside0 (kq ≤ k) ∧ Aside0 (wc.heap[gb220]? = some (.cells #[.string a0_0, (.slice A0_1 l0_1.length c0_1), (.slice A0_2 l0_2.length c0_2), (.slice A0_3 l0_3.length c0_3)] 26 (0, 0))) ∧ Aside0 (Below w.heap.size w wc))
 case first =>
  have H := HC3.out
  clear HC3
  replace H := ib_ H; obtain ⟨rfl, H⟩ | ⟨rfl, H⟩ := H
  ·have H' := Aside0.mk H
   clear H
   go_wp2
   go_meet
   case rel => exact ⟨_, (!false), rl_, H', ⟨km_⟩, ⟨grw BK220.out⟩, ⟨bw_⟩⟩
  replace H := id_ H; obtain ⟨c8, H⟩ | ⟨c8, H⟩ := H
  ·have c8b0 : decide (8 < (l0_1.length : Int)) = true := decide_eq_true c8
   have c8b1 : decide (8 < l0_1.length) = true := decide_eq_true (by omega)
   clear c8
   (first | rw [c8b0] | (simp only [i64_w, i32_w]; rw [c8b0]) | rw [c8b1] | skip)
   have H' := Aside0.mk H
   clear H
   obtain ⟨z9_0, z9_1, z9_2, z9_3, y9_0, y9_1, y9_2, y9_3⟩ := cw4_ BK220.out
   go_wp2
   go_meet
   case rel => exact ⟨_, (decide ((l0_1.length : Int) > 8)), rl_, H', ⟨km_⟩, ⟨grw BK220.out⟩, ⟨bw_⟩⟩
  have c8b0 : decide (8 < (l0_1.length : Int)) = false := decide_eq_false c8
  have c8b1 : decide (8 < l0_1.length) = false := decide_eq_false (by omega)
  clear c8
  (first | rw [c8b0] | (simp only [i64_w, i32_w]; rw [c8b0]) | rw [c8b1] | skip)
  replace H := id_ H; obtain ⟨c10, H⟩ | ⟨c10, H⟩ := H
  ·have c10b0 : decide (4 < (l0_2.length : Int)) = true := decide_eq_true c10
   have c10b1 : decide (4 < l0_2.length) = true := decide_eq_true (by omega)
   clear c10
   have H' := Aside0.mk H
   clear H
   obtain ⟨z11_0, z11_1, z11_2, z11_3, y11_0, y11_1, y11_2, y11_3⟩ := cw4_ BK220.out
   go_wp2
   go_meet
   case rel => exact ⟨_, (decide ((l0_2.length : Int) > 4)), rl_, H', ⟨km_⟩, ⟨grw BK220.out⟩, ⟨bw_⟩⟩
  have c10b0 : decide (4 < (l0_2.length : Int)) = false := decide_eq_false c10
  have c10b1 : decide (4 < l0_2.length) = false := decide_eq_false (by omega)
  clear c10
  replace H := bi_ H; obtain ⟨t222, A12, H⟩ := H
  have H' := Aside0.mk H
  clear H
  obtain ⟨z13_0, z13_1, z13_2, z13_3, y13_0, y13_1, y13_2, y13_3⟩ := cw4_ BK220.out
  go_wp2_with (first | ((with_reducible refine gate_callee (f := 44) rfl ?_); refine gl_ (some 18) Tryz.func44 #[.slice A0_3 l0_3.length c0_3] ?_; (with_reducible refine cm_ (shape_Check.calls _ _ l0_3 t222 _ (kc_ HR0_3 HB) HC0_3.out A12.out) ?_); intro w14 hb; refine ⟨_, rfl, ?_⟩; replace BK220 := tb_ BK220 hb; replace HB := ts_ HB hb; clear hb))
  go_meet
  case rel => exact ⟨_, ((t222 != 0)), rl_, H', ⟨km_⟩, ⟨grw BK220.out⟩, ⟨bw_⟩⟩
 case rest =>
  clear HC3
  try clear z5_0 z5_1 z5_2 z5_3
  try clear y5_0 y5_1 y5_2 y5_3
  obtain ⟨kq, x3_2, rfl, HA, HJ2, BK220, HB⟩ := hcut
  cases kq with
  | zero => exact absurd HA.out (by simp [print_Check.j0])
  | succ kj2 =>
   have H := HA.out
   clear HA
   simp only [print_Check.j0] at H
   replace H := ie_ H; obtain ⟨rfl, H⟩ | ⟨rfl, H⟩ := H
   ·obtain rfl := Option.some.inj H
    go_wp2
    go_ret
    exact ⟨rv_, bw_⟩
   replace H := bi_ H; obtain ⟨t223, A16, H⟩ := H
   replace H := ie_ H; obtain ⟨rfl, H⟩ | ⟨rfl, H⟩ := H
   ·obtain rfl := Option.some.inj H
    obtain ⟨z18_0, z18_1, z18_2, z18_3, y18_0, y18_1, y18_2, y18_3⟩ := cw4_ BK220.out
    go_wp2_with (first | ((with_reducible refine gate_callee (f := 45) rfl ?_); refine gl_ (some 23) Tryz.func45 #[.slice A0_1 l0_1.length c0_1, .func (.func 46) #[] #[]] ?_; (with_reducible refine cm_ (slices_ContainsFunc_string_string.calls kj2 _ _ l0_1 0 true _ (kc_ HR0_1 HB) HC0_1.out A16.out) ?_); intro w19 hb; refine ⟨_, rfl, ?_⟩; replace BK220 := tb_ BK220 hb; replace HB := ts_ HB hb; clear hb))
    go_ret
    exact ⟨rv_, bw_⟩
   replace H := bi_ H; obtain ⟨t224, A20, H⟩ := H
   replace H := ie_ H; obtain ⟨rfl, H⟩ | ⟨rfl, H⟩ := H
   ·obtain rfl := Option.some.inj H
    obtain ⟨z22_0, z22_1, z22_2, z22_3, y22_0, y22_1, y22_2, y22_3⟩ := cw4_ BK220.out
    go_wp2_with (first | ((with_reducible refine gate_callee (f := 45) rfl ?_); refine gl_ (some 23) Tryz.func45 #[.slice A0_1 l0_1.length c0_1, .func (.func 46) #[] #[]] ?_; (with_reducible refine cm_ (slices_ContainsFunc_string_string.calls kj2 _ _ l0_1 0 false _ (kc_ HR0_1 HB) HC0_1.out A16.out) ?_); intro w23 hb; refine ⟨_, rfl, ?_⟩; replace BK220 := tb_ BK220 hb; replace HB := ts_ HB hb; clear hb; obtain ⟨z24_0, z24_1, z24_2, z24_3, y24_0, y24_1, y24_2, y24_3⟩ := cw4_ BK220.out) | ((with_reducible refine gate_callee (f := 47) rfl ?_); refine gl_ (some 27) Tryz.func47 #[.slice A0_2 l0_2.length c0_2, .func (.func 48) #[] #[]] ?_; (with_reducible refine cm_ (api_Var_47.calls kj2 _ _ l0_2 0 true _ (kc_ HR0_2 HB) HC0_2.out A20.out) ?_); intro w25 hb; refine ⟨_, rfl, ?_⟩; replace BK220 := tb_ BK220 hb; replace HB := ts_ HB hb; clear hb))
    go_ret
    exact ⟨rv_, bw_⟩
   replace H := bi_ H; obtain ⟨t225, A26, H⟩ := H
   replace H := ib_ H; obtain ⟨rfl, H⟩ | ⟨rfl, H⟩ := H
   ·obtain rfl := Option.some.inj H
    obtain ⟨z34_0, z34_1, z34_2, z34_3, y34_0, y34_1, y34_2, y34_3⟩ := cw4_ BK220.out
    go_wp2_with (first | ((with_reducible refine gate_callee (f := 45) rfl ?_); refine gl_ (some 23) Tryz.func45 #[.slice A0_1 l0_1.length c0_1, .func (.func 46) #[] #[]] ?_; (with_reducible refine cm_ (slices_ContainsFunc_string_string.calls kj2 _ _ l0_1 0 false _ (kc_ HR0_1 HB) HC0_1.out A16.out) ?_); intro w35 hb; refine ⟨_, rfl, ?_⟩; replace BK220 := tb_ BK220 hb; replace HB := ts_ HB hb; clear hb; obtain ⟨z36_0, z36_1, z36_2, z36_3, y36_0, y36_1, y36_2, y36_3⟩ := cw4_ BK220.out) | ((with_reducible refine gate_callee (f := 47) rfl ?_); refine gl_ (some 27) Tryz.func47 #[.slice A0_2 l0_2.length c0_2, .func (.func 48) #[] #[]] ?_; (with_reducible refine cm_ (api_Var_47.calls kj2 _ _ l0_2 0 false _ (kc_ HR0_2 HB) HC0_2.out A20.out) ?_); intro w37 hb; refine ⟨_, rfl, ?_⟩; replace BK220 := tb_ BK220 hb; replace HB := ts_ HB hb; clear hb; obtain ⟨z38_0, z38_1, z38_2, z38_3, y38_0, y38_1, y38_2, y38_3⟩ := cw4_ BK220.out) | ((with_reducible refine gate_callee (f := 49) rfl ?_); refine gl_ (some 30) Tryz.func49 #[.slice A0_3 l0_3.length c0_3, .func (.func 50) #[] #[]] ?_; (with_reducible refine cm_ (api_State_49.calls kj2 _ _ l0_3 0 false _ (kc_ HR0_3 HB) HC0_3.out A26.out) ?_); intro w39 hb; refine ⟨_, rfl, ?_⟩; replace BK220 := tb_ BK220 hb; replace HB := ts_ HB hb; clear hb))
    go_ret
    exact ⟨rv_, bw_⟩

   obtain rfl := Option.some.inj H
   obtain ⟨z28_0, z28_1, z28_2, z28_3, y28_0, y28_1, y28_2, y28_3⟩ := cw4_ BK220.out
   go_wp2_with (first | ((with_reducible refine gate_callee (f := 45) rfl ?_); refine gl_ (some 23) Tryz.func45 #[.slice A0_1 l0_1.length c0_1, .func (.func 46) #[] #[]] ?_; (with_reducible refine cm_ (slices_ContainsFunc_string_string.calls kj2 _ _ l0_1 0 false _ (kc_ HR0_1 HB) HC0_1.out A16.out) ?_); intro w29 hb; refine ⟨_, rfl, ?_⟩; replace BK220 := tb_ BK220 hb; replace HB := ts_ HB hb; clear hb; obtain ⟨z30_0, z30_1, z30_2, z30_3, y30_0, y30_1, y30_2, y30_3⟩ := cw4_ BK220.out) | ((with_reducible refine gate_callee (f := 47) rfl ?_); refine gl_ (some 27) Tryz.func47 #[.slice A0_2 l0_2.length c0_2, .func (.func 48) #[] #[]] ?_; (with_reducible refine cm_ (api_Var_47.calls kj2 _ _ l0_2 0 false _ (kc_ HR0_2 HB) HC0_2.out A20.out) ?_); intro w31 hb; refine ⟨_, rfl, ?_⟩; replace BK220 := tb_ BK220 hb; replace HB := ts_ HB hb; clear hb; obtain ⟨z32_0, z32_1, z32_2, z32_3, y32_0, y32_1, y32_2, y32_3⟩ := cw4_ BK220.out) | ((with_reducible refine gate_callee (f := 49) rfl ?_); refine gl_ (some 30) Tryz.func49 #[.slice A0_3 l0_3.length c0_3, .func (.func 50) #[] #[]] ?_; (with_reducible refine cm_ (api_State_49.calls kj2 _ _ l0_3 0 true _ (kc_ HR0_3 HB) HC0_3.out A26.out) ?_); intro w33 hb; refine ⟨_, rfl, ?_⟩; replace BK220 := tb_ BK220 hb; replace HB := ts_ HB hb; clear hb))
   go_ret
   exact ⟨rv_, bw_⟩
end Go.Proofs.YtbkaiojofgmbnaaGreat.XS
