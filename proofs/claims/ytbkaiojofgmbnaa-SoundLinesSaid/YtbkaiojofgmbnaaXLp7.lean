-- written by wip/xprint.py out of the translation
import Derived.Test.YtbkaiojofgmbnaaXShort
import Derived.Test.YtbkaiojofgmbnaaXLp0
import Derived.Test.YtbkaiojofgmbnaaXLp3
import Derived.Test.YtbkaiojofgmbnaaXLp5
import Derived.Test.YtbkaiojofgmbnaaXLp6
namespace Go.Proofs.Ytbkaiojofgmbnaa.XL
open Go.Proofs.Ytbkaiojofgmbnaa.XShort Go.Proofs.Ytbkaiojofgmbnaa.XReg Go.Proofs.Ytbkaiojofgmbnaa.XGrow Go.RowKit Go.Proofs.YtbkaiojofgmbnaaW.PrintWords Go.Proofs.YtbkaiojofgmbnaaW.PrintLast Go.Proofs.YtbkaiojofgmbnaaW.PrintMore
attribute [local go_sem] max2_int min2_int max_two min_two max_three min_three max_four min_four   -- for this text's walks alone
set_option linter.unusedVariables false
set_option linter.unusedSimpArgs false

/-! ### names_Place: function 39 -/
def names_Place.f (k : Nat) (l0 : List ByteArray) (a1 : ByteArray) : Option (Int) := (slices_Index_string_string.f k l0 a1).bind fun t174 => (some t174)
theorem names_Place.mono : ∀ a0 a1 k, LeO (names_Place.f k a0 a1) (names_Place.f (k + 1) a0 a1) := by
  intro a0 a1 k
  unfold names_Place.f
  exact mo_
instance names_Place.lc : ∀ a0 a1 k, LeC (names_Place.f k a0 a1) (names_Place.f (k + 1) a0 a1) := fun a0 a1 k => ⟨names_Place.mono a0 a1 k⟩
set_option maxHeartbeats 8000000 in
set_option maxRecDepth 100000 in
theorem names_Place.calls (k : Nat) (A0 : Option Addr) (c0 : Nat) (l0 : List ByteArray) (a1 : ByteArray) (r : Int) (w : World) (hr0 : Kd.C Kd.string w A0 l0.length l0) (hc0 : l0.length ≤ c0) (h : names_Place.f k l0 a1 = some r) :
    Calls Try.prog 39 #[.slice A0 l0.length c0, .string a1] w fun e w' => e = .returned (.int .i64 r) ∧ Drawn0 w w' := by
  have HR0 := Aside0.mk hr0
  have HC0 := Aside0.mk hc0
  clear hr0 hc0
  unfold names_Place.f at h
  have H := h
  clear h
  replace H := bi_ H; obtain ⟨t174, A3, H⟩ := H
  obtain rfl := Option.some.inj H
  go_enter Try.func39, Try.ntmps39
  go_wp2_with (first | ((with_reducible refine gate_callee (f := 72) rfl ?_); refine gl_ (some 7) Try.func72 #[.slice A0 l0.length c0, .string a1] ?_; (with_reducible refine (slices_Index_string_string.calls k _ _ l0 a1 t174 _ (kg_ HR0.out) HC0.out A3.out).mono ?_); rintro e w' ⟨rfl, ⟨nd, rfl⟩⟩; refine ⟨_, rfl, ?_⟩))
  go_ret
  exact ⟨rl_, dw_⟩

/-! ### rules_none: function 183 -/
-- USES semblance/names.Place
-- USES slices.ContainsFunc[[]string,string]
/-- the texts are the same -/
def rules_hit (s t : ByteArray) : Bool := t.toList == s.toList
/-- where a text stands -/
def rules_at (l : List ByteArray) (s : ByteArray) : Int := Go.Proofs.Ytbkaiojofgmbnaa.XFind.idxF (rules_hit s) l
open Go.Proofs.Ytbkaiojofgmbnaa.XFind Go.Proofs.Ytbkaiojofgmbnaa.XFuel in
theorem rules_at.steps (xs : List ByteArray) (s : ByteArray) (hx : xs.length ≤ 100000) : ∀ (d n : Nat), xs.length - n = d → n ≤ xs.length → (∀ j : Nat, j < n → rules_hit s (xs.getD j ByteArray.empty) = false) →
    Ev (fun k => slices_Index_string_string.l0 k xs s (xs.length : Int) n) (rules_at xs s) := by
  unfold rules_at
  intro d
  induction d with
  | zero =>
    intro n hd hn hp
    have h1 : ¬ ((n : Int) < (xs.length : Int)) := by omega
    rw [idxF_miss (rules_hit s) xs ByteArray.empty (fun j hj => hp j (by omega))]
    apply Ev.succ
    simp only [slices_Index_string_string.l0, h1, if_false]
    exact Ev.now _
  | succ d ih =>
    intro n hd hn hp
    have h1 : (n : Int) < (xs.length : Int) := by omega
    have h2 : (0 : Int) ≤ (n : Int) := by omega
    have hr : rdOf ByteArray.empty xs (n : Int) = xs.getD n ByteArray.empty := by simp [rdOf]
    have hw : wrap64 ((n : Int) + 1) = ((n + 1 : Nat) : Int) := by unfold wrap64; omega
    by_cases h : s.toList = (xs.getD n ByteArray.empty).toList
    · have hh : rules_hit s (xs.getD n ByteArray.empty) = true := beq_iff_eq.2 h.symm
      rw [idxF_hit (rules_hit s) xs ByteArray.empty n (by omega) hh hp]
      apply Ev.succ
      simp only [slices_Index_string_string.l0, h1, h2, hr, if_true]
      exact Ev.congr (fun k => if_pos h) (Ev.now _)
    · have hh : rules_hit s (xs.getD n ByteArray.empty) = false := beq_eq_false_iff_ne.2 (fun e => h e.symm)
      apply Ev.succ
      simp only [slices_Index_string_string.l0, h1, h2, hr, h, if_true, if_false]
      rw [hw]
      exact ih (n + 1) (by omega) (by omega) (fun j hj => by
        by_cases e : j = n
        · subst e; exact hh
        · exact hp j (by omega))
theorem rules_at.place (A : Option Addr) (c : Nat) (l : List ByteArray) (s : ByteArray) (W : World) (hr : Kd.C Kd.string W A l.length l) (hc : l.length ≤ c) (hx : l.length ≤ 100000) :
    Calls Try.prog 39 #[.slice A l.length c, .string s] W fun e w' => e = .returned (.int .i64 (rules_at l s)) ∧ Drawn0 W w' := by
  obtain ⟨K, hK⟩ := rules_at.steps l s hx l.length 0 (by omega) (by omega) (fun j hj => absurd hj (by omega))
  refine names_Place.calls K A c l s (rules_at l s) W hr hc ?_
  unfold names_Place.f slices_Index_string_string.f
  have := hK K (Nat.le_refl _)
  simp only [Int.natCast_zero] at this
  rw [show slices_Index_string_string.l0 K l s (l.length : Int) 0 = some (rules_at l s) from this]
  rfl
/-- is some text of l not in all? -/
def rules_none.f (l all : List ByteArray) : Bool := l.any fun s => decide (rules_at all s < 0)
set_option maxHeartbeats 2000000 in
theorem rules_none.lit (g : Nat) (A1 : Option Addr) (c1 : Nat) (l1 : List ByteArray) (s : ByteArray) (W : World) (hr1 : Kd.C Kd.string W A1 l1.length l1) (hc1 : l1.length ≤ c1) (hx : l1.length ≤ 100000) (hb : W.cell? ⟨g, 0, none⟩ = some (.slice A1 l1.length c1)) :
    Calls Try.prog 192 #[.string s, .pointer (some ⟨g, 0, none⟩)] W fun e w' => e = .returned (.bool (decide (rules_at l1 s < 0))) ∧ Below W.heap.size W w' := by
  have HC := Aside0.mk (rules_at.place A1 c1 l1 s W hr1 hc1 hx)
  clear hr1
  go_enter Try.func192, Try.ntmps192
  go_wp2_with (go_at_call 39; refine HC.out.mono ?_; rintro e w' ⟨rfl, hd⟩)
  go_ret
  exact ⟨rfl, hd.below⟩
set_option maxHeartbeats 2000000 in
theorem rules_none.calls (A0 : Option Addr) (c0 : Nat) (l0 : List ByteArray) (A1 : Option Addr) (c1 : Nat) (l1 : List ByteArray) (W : World) (hr0 : Kd.C Kd.string W A0 l0.length l0) (hr1 : Kd.C Kd.string W A1 l1.length l1) (hc1 : l1.length ≤ c1) (hx : l1.length ≤ 100000) :
    Calls Try.prog 183 #[.slice A0 l0.length c0, .slice A1 l1.length c1] W fun e w' => e = .returned (.bool (rules_none.f l0 l1)) ∧ Below W.heap.size W w' := by
  have eg := Go.Proofs.enters_of Try.func192 (by kernel_rfl) rfl
  have hb1 : Below W.heap.size W (W.alloc (.cells #[.slice A1 l1.length c1] 22)) := (Below.refl _ _).alloc (Nat.le_refl _) _
  have hcs := cell_of_one (heap_alloc_new W (.cells #[.slice A1 l1.length c1] 22))
  have HC := Aside0.mk (ContainsFunc_str.calls (fun s => decide (rules_at l1 s < 0)) 192 #[.pointer (some ⟨W.heap.size, 0, none⟩)] eg A0 c0 l0 _ (Kd.C_below hr0 hb1) hr0.2.1
    (fun W2 h2 s _ => (rules_none.lit W.heap.size A1 c1 l1 s W2 (Kd.C_below (Kd.C_below hr1 hb1) h2) hc1 hx ((h2.cell (p := ⟨W.heap.size, 0, none⟩) (by simp)).trans hcs)).mono fun e w' ⟨he, hw⟩ => ⟨he, h2.trans (hw.mono h2.size)⟩))
  have HB := Aside0.mk hb1
  clear hr0 hr1 hcs hb1
  go_enter Try.func183, Try.ntmps183
  go_wp2_with (go_at_call 73; refine HC.out.mono ?_; rintro e w' ⟨rfl, hb⟩)
  go_ret
  exact ⟨rfl, HB.out.trans (hb.mono HB.out.size)⟩


/-! ### term_Names: function 184 -/
def term_Names.l0 : Nat → Int → List ByteArray → List (S214) → Int → Int → Option (List ByteArray)
  | 0, _, _, _, _, _ => none
  | k + 1, x1, x5, x8, x9, x10 => if x10 < x9 then (if 0 ≤ x10 then (if x10 < (x8.length : Int) then (if ((rd_T214 x8 x10).f0) = x1 then (if x5.length < 8796093022208 then (term_Names.l0 k x1 (x5 ++ [(rd_T214 x8 x10).f2]) x8 x9 (wrap64 (x10 + 1))) else (none)) else (term_Names.l0 k x1 x5 x8 x9 (wrap64 (x10 + 1)))) else (none)) else (none)) else (some x5)
def term_Names.f (k : Nat) (l0 : List (S214)) (a1 : Int) : Option (List ByteArray) := term_Names.l0 k a1 ([] : List ByteArray) l0 (l0.length : Int) 0
theorem term_Names.mono_l : ∀ k, (∀ y0 y1 y2 y3 y4, LeO (term_Names.l0 k y0 y1 y2 y3 y4) (term_Names.l0 (k + 1) y0 y1 y2 y3 y4))
  | 0 => fun _ _ _ _ _ r h => by simp [term_Names.l0] at h
  | k + 1 => by
    have ih0 := term_Names.mono_l k
    · intro y0 y1 y2 y3 y4
      unfold term_Names.l0
      exact mo_
theorem term_Names.mono : ∀ a0 a1 k, LeO (term_Names.f k a0 a1) (term_Names.f (k + 1) a0 a1) := by
  intro a0 a1 k
  have ih0 := term_Names.mono_l k
  unfold term_Names.f
  exact mo_
instance term_Names.lc : ∀ a0 a1 k, LeC (term_Names.f k a0 a1) (term_Names.f (k + 1) a0 a1) := fun a0 a1 k => ⟨term_Names.mono a0 a1 k⟩
set_option maxHeartbeats 8000000 in
set_option maxRecDepth 100000 in
theorem term_Names.calls (k : Nat) (A0 : Option Addr) (c0 : Nat) (l0 : List (S214)) (a1 : Int) (r : List ByteArray) (w : World) (hr0 : Kd.C k214 w A0 l0.length l0) (hc0 : l0.length ≤ c0) (h : term_Names.f k l0 a1 = some r) :
  Calls Try.prog 184 #[.slice A0 l0.length c0, .int .i64 a1] w fun e w' => ∃ v0_ : Value, e = .returned (v0_) ∧ Kd.R Kd.string 9 w' w.heap.size (fun _ => True) v0_ r ∧ Below w.heap.size w w' := by
 have hu214 := Try.underlying214
 have HR0 := Aside0.mk hr0
 have HC0 := Aside0.mk hc0
 clear hr0 hc0
 have HB := Aside0.mk (Below.refl w.heap.size w)
 unfold term_Names.f at h
 have H := h
 clear h
 have H' := Aside0.mk H
 clear H
 go_enter Try.func184, Try.ntmps184
 go_wp2
 go_loopg [5, 10] k (fun kq v5 v10 w' => ∃ (x5_1 : List ByteArray) (x10_1 : Int), v10 = .int .i64 x10_1 ∧ Aside0 (term_Names.l0 kq a1 x5_1 l0 (l0.length : Int) x10_1 = some r) ∧ Aside0 (kq ≤ k) ∧ Aside0 (Kd.R Kd.string 9 w' w.heap.size (fun _ => True) v5 x5_1) ∧ Aside0 (Below w.heap.size w w'))
 case atStart => exact ⟨(([] : List ByteArray)), (0), rl_, H', ⟨Nat.le_refl _⟩, ⟨by first | exact Kd.R_nil _ _ _ _ _ | exact Kd.N_nil _ _ _ _ _ | exact Kd.V_nil _ _ _ _ _ | exact Kd.Q_nil _ _ _ _ _ | exact Kd.S_nil _ _ _ _ _⟩, ⟨bw_⟩⟩
 case round =>
  clear H'
  obtain ⟨x5_1, x10_1, rfl, HA, HK1, HO_5, HB⟩ := hrel
  cases gk with
  | zero => exact absurd HA.out (by simp [term_Names.l0])
  | succ k1 =>
   have H := HA.out
   clear HA
   simp only [term_Names.l0] at H
   replace H := it_ H; obtain ⟨c3b0, H⟩ | ⟨c3b0, H⟩ := H
   ·obtain rfl := Option.some.inj H
    go_wp2
    go_ret
    exact ⟨_, rv_, by (with_reducible repeat (first | apply Kd.R_alloc | apply Kd.R_drewN | apply Kd.R_drew)); exact HO_5.out, by repeat (first | (with_reducible first | exact HB.out | apply below_alloc | apply pw_below_drewN | apply below_drew1) | exact HB.out)⟩

   replace H := is_ H; obtain ⟨c4b0, H⟩ := H
   replace H := is_ H; obtain ⟨c5b0, H⟩ := H
   replace H := ic_ H; obtain ⟨c6, H⟩ | ⟨c6, H⟩ := H
   ·have c6b0 : (((rd_T214 l0 x10_1).f0) == a1) = false := beq_eq_false_iff_ne.mpr c6
    have c6b1 : (((rd_T214 l0 x10_1).f0) != a1) = true := bne_iff_ne.mpr c6
    have H' := Aside0.mk H
    clear H
    obtain ⟨ad175, e175, hx175_0, hx175_1, hx175_2, p175, q175⟩ := au_T214 HR0 HB x10_1; cases e175
    go_wp2_with (first | ((with_reducible refine gate_dst (N := 7) rfl ?_); refine by_ HB (N := 7) (cs := #[.int .i64 0, .int .i64 0, .string (⟨#[]⟩ : ByteArray)]) (t := 214) ?_; intro gb176 hg w11 hbox hb hB_; have BK176 := Aside0.mk (hbox); have GW176 := gw_ hg hB_; have GE176 := gw_ hg hB_; replace HO_5 := Aside0.mk (Kd.R_below (kR_ HO_5) hb); replace HB := Aside0.mk (below_step hB_ hb); clear hb hbox hg; obtain ⟨z12_0, z12_1, z12_2, y12_0, y12_1, y12_2⟩ := cw3_ BK176.out))
    go_roundg k1
    case measure => have := HK1.out; omega
    case rel => exact ⟨(x5_1), (wrap64 (x10_1 + 1)), rl_, H', ⟨kn_ HK1⟩, ⟨by (with_reducible repeat (first | apply Kd.R_alloc | apply Kd.R_drewN | apply Kd.R_drew)); exact Kd.R_mono (Kd.R_far (p := ⟨gb176, 2, none⟩) (Kd.R_far (p := ⟨gb176, 1, none⟩) (Kd.R_far (p := ⟨gb176, 0, none⟩) (Kd.R_types HO_5.out BK176.out (by decide)) (fun _ hk => hk.2) (.int .i64 ((rd_T214 l0 x10_1).f0))) (fun _ hk => hk.2) (.int .i64 ((rd_T214 l0 x10_1).f1))) (fun _ hk => hk.2) (.string ((rd_T214 l0 x10_1).f2))) (fun _ hk => trivial)⟩, ⟨bw_⟩⟩
   have c6b0 : (((rd_T214 l0 x10_1).f0) == a1) = true := beq_iff_eq.mpr c6
   have c6b1 : (((rd_T214 l0 x10_1).f0) != a1) = false := bne_eq_false_iff_eq.mpr c6
   clear c6
   replace H := ip_ H; obtain ⟨c7, H⟩ := H
   have LMc7 := Aside0.mk c7
   clear c7
   obtain ⟨y177, hy177⟩ : ∃ y_ : List ByteArray, y_ = (x5_1 ++ [(rd_T214 l0 x10_1).f2]) := ⟨_, rfl⟩
   replace H : (term_Names.l0 k1 a1 y177 l0 (l0.length : Int) (wrap64 (x10_1 + 1))) = some r := by first | (rw [hy177]; with_reducible exact H) | (have H2_ := (Option.bind_some _ _).symm.trans H; rw [hy177]; with_reducible exact H2_) | (have H2_ := (Option.bind_some _ _).symm.trans H; with_reducible exact H2_) | with_reducible exact H | (rw [hy177]; exact H) | exact H
   have Ny177 := Aside0.mk hy177
   clear hy177
   have H' := Aside0.mk H
   clear H
   obtain ⟨ad175, e175, hx175_0, hx175_1, hx175_2, p175, q175⟩ := au_T214 HR0 HB x10_1; cases e175
   go_wp2_with (first | ((with_reducible refine gate_dst (N := 7) rfl ?_); refine by_ HB (N := 7) (cs := #[.int .i64 0, .int .i64 0, .string (⟨#[]⟩ : ByteArray)]) (t := 214) ?_; intro gb176 hg w8 hbox hb hB_; have BK176 := Aside0.mk (hbox); have GW176 := gw_ hg hB_; have GE176 := gw_ hg hB_; replace HO_5 := Aside0.mk (Kd.R_below (kR_ HO_5) hb); replace HB := Aside0.mk (below_step hB_ hb); clear hb hbox hg; obtain ⟨z9_0, z9_1, z9_2, y9_0, y9_1, y9_2⟩ := cw3_ BK176.out) | ((with_reducible refine gate_builtin (b := .append) (xs := #[.tmp 18, .tmp 21]) rfl ?_); at_builtin; refine Kd.R_append Kd.string (w0 := w) w.heap.size rfl (.tmp 18) (.tmp 21) 22 9 (.string ⟨#[]⟩) 16 rfl Try.underlying22 info9 rfl (by decide) (by omega) u5 x5_1 ((rd_T214 l0 x10_1).f2) [.string ((rd_T214 l0 x10_1).f2)] (fun _ => True) (fun _ => False) rfl (by first | (go_simp; done) | (go_simp; rfl)) ?aP (fun _ hk => hk.elim) ?aF ?aO ?aB ?aS ?aL ?_; (case aP => exact rfl); (case aB => exact bw_); (case aF => exact (fun _ _ => trivial)); (case aO => exact (by (with_reducible repeat (first | apply Kd.R_alloc | apply Kd.R_drewN | apply Kd.R_drew)); exact Kd.R_mono (Kd.R_far (p := ⟨gb176, 2, none⟩) (Kd.R_far (p := ⟨gb176, 1, none⟩) (Kd.R_far (p := ⟨gb176, 0, none⟩) (Kd.R_types HO_5.out BK176.out (by decide)) (fun _ hk => hk.2) (.int .i64 ((rd_T214 l0 x10_1).f0))) (fun _ hk => hk.2) (.int .i64 ((rd_T214 l0 x10_1).f1))) (fun _ hk => hk.2) (.string ((rd_T214 l0 x10_1).f2))) (fun _ hk => trivial))); (case aS => exact (below_size bw_)); (case aL => have := LMc7.out; omega); intro v178 w10 ho hb hg hat; rw [← Ny177.out] at ho; have HO179 := Aside0.mk (ho); replace BK176 := Aside0.mk (blk_grown (g := gb176) (o := .cells #[.int .i64 ((rd_T214 l0 x10_1).f0), .int .i64 ((rd_T214 l0 x10_1).f1), .string ((rd_T214 l0 x10_1).f2)] 214 (0, 0)) (by refine grO ?_; refine blk_put (cs := #[.int .i64 ((rd_T214 l0 x10_1).f0), .int .i64 ((rd_T214 l0 x10_1).f1), .string (⟨#[]⟩ : ByteArray)]) ?_ 2 _ rfl; refine grO ?_; refine blk_put (cs := #[.int .i64 ((rd_T214 l0 x10_1).f0), .int .i64 0, .string (⟨#[]⟩ : ByteArray)]) ?_ 1 _ rfl; refine grO ?_; refine blk_put (cs := #[.int .i64 0, .int .i64 0, .string (⟨#[]⟩ : ByteArray)]) ?_ 0 _ rfl; refine grO ?_; exact BK176.out) hg (Kd.R_ne HO_5.out BK176.out (by decide))); replace HB := Aside0.mk (hb); clear ho hb hg hat))
   go_roundg k1
   case measure => have := HK1.out; omega
   case rel => exact ⟨(y177), (wrap64 (x10_1 + 1)), rl_, H', ⟨kn_ HK1⟩, ⟨by (with_reducible repeat (first | apply Kd.R_alloc | apply Kd.R_drewN | apply Kd.R_drew)); exact HO179.out⟩, ⟨bw_⟩⟩
/-! ### rules_book_foreign: function 171 -/
-- USES semblance/rules.none
-- USES (*semblance/rules.book).note
-- USES semblance/term.Type
-- USES semblance/term.Names
def rules_foreign.f (k : Nat) (b : rules_bk.Bk) (l : List (S214)) (a1 : Int) : Option Bool :=
  (term_Type.f k l).bind fun t => if t = a1 then (term_Names.f k l 2).bind fun ns => if rules_none.f ns b.lV = true then some true else (term_Names.f k l 11).bind fun ms => some (rules_none.f ms b.lS) else some true
theorem rules_foreign.mono : ∀ b l a1 k, LeO (rules_foreign.f k b l a1) (rules_foreign.f (k + 1) b l a1) := by
  intro b l a1 k
  unfold rules_foreign.f
  exact LeO.bind (term_Type.mono _ k) (fun t => LeO.ite (LeO.bind (term_Names.mono _ _ k) (fun ns => LeO.ite (LeO.refl _) (LeO.bind (term_Names.mono _ _ k) (fun ms => LeO.refl _)))) (LeO.refl _))
instance rules_foreign.lc : ∀ b l a1 k, LeC (rules_foreign.f k b l a1) (rules_foreign.f (k + 1) b l a1) := fun b l a1 k => ⟨rules_foreign.mono b l a1 k⟩
set_option maxHeartbeats 4000000 in
set_option maxRecDepth 100000 in
open Go.Proofs.Ytbkaiojofgmbnaa.XReg in
theorem rules_foreign.calls (k : Nat) (n₁ n₀ B : Nat) (b : rules_bk.Bk) (out : List (S64)) (vo : Value) (A0 : Option Addr) (c0 : Nat) (l0 : List (S214)) (a1 : Int) (r : Bool) (W : World) (hA : rules_bk.At n₁ n₀ W B b out vo) (hV : b.lV.length ≤ 100000) (hS : b.lS.length ≤ 100000)
    (hr0 : Kd.C k214 W A0 l0.length l0) (hc0 : l0.length ≤ c0) (h : rules_foreign.f k b l0 a1 = some r) :
    Calls Try.prog 171 #[.pointer (some ⟨B, 0, none⟩), .slice A0 l0.length c0, .int .i64 a1] W fun e w' => e = .returned (.bool r) ∧ Below W.heap.size W w' := by
  unfold rules_foreign.f at h
  obtain ⟨t, ht, h⟩ := Option.bind_eq_some_iff.mp h
  have hu := Try.underlying159
  have HR := Aside0.mk hr0
  have HA := Aside0.mk hA
  have HT := Aside0.mk ht
  have HVS := Aside0.mk (And.intro hV hS)
  clear hr0 hA ht hV hS
  by_cases c1 : t = a1
  · rw [if_pos c1] at h
    have c1b : (t != a1) = false := bne_eq_false_iff_eq.mpr c1
    clear c1
    obtain ⟨ns, hns, h⟩ := Option.bind_eq_some_iff.mp h
    have HN := Aside0.mk hns
    clear hns
    by_cases c2 : rules_none.f ns b.lV = true
    · rw [if_pos c2] at h
      obtain rfl := Option.some.inj h
      have HC2 := Aside0.mk c2
      clear h c2
      go_enter Try.func171, Try.ntmps171
      go_wp2_with fail
      refine rs_ 23 [0, 2, 1, 3, 4, 5, 7, 8, 9, 10, 6, 11, 12, 13, 14, 15, 16, 17, 18, 19, 20, 21, 22] (fun w' => w'.cell? ⟨B, 4, none⟩ = some (.slice b.AV b.lV.length b.cV) ∧ w'.cell? ⟨B, 5, none⟩ = some (.slice b.AS b.lS.length b.cS)) rfl (by kernel_rfl) ⟨(HA.out.below (below_drew1 (Below.refl _ _))).cells.2.2.2.2.1, (HA.out.below (below_drew1 (Below.refl _ _))).cells.2.2.2.2.2.1⟩ (fun hHeld => ?_)
      iterate 2 (first | refine pq_ ?_ | refine tq_ hHeld ?_)
      refine cq_ Try.func182 ?_
      refine (term_Type.calls k A0 c0 l0 t _ (Kd.C_drew HR.out) hc0 HT.out).mono ?_
      rintro e w2 ⟨rfl, hb2⟩; have HB2 := Aside0.mk (below_step (below_drew1 (Below.refl _ W)) hb2); clear hb2
      refine ⟨_, rfl, ⟨(HA.out.below HB2.out).cells.2.2.2.2.1, (HA.out.below HB2.out).cells.2.2.2.2.2.1⟩, fun hHeld => ?_⟩
      (try simp only [Act.put, sb_, s0_, s1_])
      iterate 7 (first | refine pq_ ?_ | refine tq_ hHeld ?_)
      refine cq_ Try.func184 ?_
      refine (term_Names.calls k A0 c0 l0 2 ns _ (Kd.C_below HR.out HB2.out) hc0 HN.out).mono ?_
      rintro e w3 ⟨v3, rfl, hR3, hb3⟩; obtain ⟨A3, c3, rfl, hl3, hC3⟩ := Kd.R_reads hR3; have HB3 := Aside0.mk (below_step HB2.out hb3); have HC3 := Aside0.mk hC3; clear hR3 hC3 hb3
      refine ⟨_, rfl, ⟨(HA.out.below HB3.out).cells.2.2.2.2.1, (HA.out.below HB3.out).cells.2.2.2.2.2.1⟩, fun hHeld => ?_⟩
      (try simp only [Act.put, sb_, s0_, s1_])
      refine cq_ Try.func183 ?_
      refine (rules_none.calls A3 c3 ns b.AV b.cV b.lV w3 HC3.out (Kd.R_reads' (HA.out.below HB3.out).vars).2.2 (Kd.R_reads' (HA.out.below HB3.out).vars).2.1 HVS.out.1).mono ?_
      rw [HC2.out]; rintro e w4 ⟨rfl, hb4⟩; have HB4 := Aside0.mk (below_step HB3.out hb4); clear hb4
      refine ⟨_, rfl, ⟨(HA.out.below HB4.out).cells.2.2.2.2.1, (HA.out.below HB4.out).cells.2.2.2.2.2.1⟩, fun hHeld => ?_⟩
      (try simp only [Act.put, sb_, s0_, s1_])
      iterate 11 (first | refine pq_ ?_ | refine tq_ hHeld ?_)
      refine dn_ (by kernel_rfl) ?_
      go_wp2
      go_ret
      exact ⟨rfl, HB4.out⟩
    · rw [if_neg c2] at h
      obtain ⟨ms, hms, h⟩ := Option.bind_eq_some_iff.mp h
      obtain rfl := Option.some.inj h
      have HC2 := Aside0.mk (Bool.eq_false_iff.2 c2)
      have HM := Aside0.mk hms
      clear h c2 hms
      generalize hq : rules_none.f ms b.lS = q
      have HQ := Aside0.mk hq
      clear hq
      go_enter Try.func171, Try.ntmps171
      go_wp2_with fail
      refine rs_ 23 [0, 2, 1, 3, 4, 5, 7, 8, 9, 10, 6, 11, 12, 13, 14, 16, 17, 18, 19, 15, 20, 21, 22] (fun w' => w'.cell? ⟨B, 4, none⟩ = some (.slice b.AV b.lV.length b.cV) ∧ w'.cell? ⟨B, 5, none⟩ = some (.slice b.AS b.lS.length b.cS)) rfl (by kernel_rfl) ⟨(HA.out.below (below_drew1 (Below.refl _ _))).cells.2.2.2.2.1, (HA.out.below (below_drew1 (Below.refl _ _))).cells.2.2.2.2.2.1⟩ (fun hHeld => ?_)
      iterate 2 (first | refine pq_ ?_ | refine tq_ hHeld ?_)
      refine cq_ Try.func182 ?_
      refine (term_Type.calls k A0 c0 l0 t _ (Kd.C_drew HR.out) hc0 HT.out).mono ?_
      rintro e w2 ⟨rfl, hb2⟩; have HB2 := Aside0.mk (below_step (below_drew1 (Below.refl _ W)) hb2); clear hb2
      refine ⟨_, rfl, ⟨(HA.out.below HB2.out).cells.2.2.2.2.1, (HA.out.below HB2.out).cells.2.2.2.2.2.1⟩, fun hHeld => ?_⟩
      (try simp only [Act.put, sb_, s0_, s1_])
      iterate 7 (first | refine pq_ ?_ | refine tq_ hHeld ?_)
      refine cq_ Try.func184 ?_
      refine (term_Names.calls k A0 c0 l0 2 ns _ (Kd.C_below HR.out HB2.out) hc0 HN.out).mono ?_
      rintro e w3 ⟨v3, rfl, hR3, hb3⟩; obtain ⟨A3, c3, rfl, hl3, hC3⟩ := Kd.R_reads hR3; have HB3 := Aside0.mk (below_step HB2.out hb3); have HC3 := Aside0.mk hC3; clear hR3 hC3 hb3
      refine ⟨_, rfl, ⟨(HA.out.below HB3.out).cells.2.2.2.2.1, (HA.out.below HB3.out).cells.2.2.2.2.2.1⟩, fun hHeld => ?_⟩
      (try simp only [Act.put, sb_, s0_, s1_])
      refine cq_ Try.func183 ?_
      refine (rules_none.calls A3 c3 ns b.AV b.cV b.lV w3 HC3.out (Kd.R_reads' (HA.out.below HB3.out).vars).2.2 (Kd.R_reads' (HA.out.below HB3.out).vars).2.1 HVS.out.1).mono ?_
      rw [HC2.out]; rintro e w4 ⟨rfl, hb4⟩; have HB4 := Aside0.mk (below_step HB3.out hb4); clear hb4
      refine ⟨_, rfl, ⟨(HA.out.below HB4.out).cells.2.2.2.2.1, (HA.out.below HB4.out).cells.2.2.2.2.2.1⟩, fun hHeld => ?_⟩
      (try simp only [Act.put, sb_, s0_, s1_])
      iterate 7 (first | refine pq_ ?_ | refine tq_ hHeld ?_)
      refine cq_ Try.func184 ?_
      refine (term_Names.calls k A0 c0 l0 11 ms _ (Kd.C_below HR.out HB4.out) hc0 HM.out).mono ?_
      rintro e w5 ⟨v5, rfl, hR5, hb5⟩; obtain ⟨A5, c5, rfl, hl5, hC5⟩ := Kd.R_reads hR5; have HB5 := Aside0.mk (below_step HB4.out hb5); have HC5 := Aside0.mk hC5; clear hR5 hC5 hb5
      refine ⟨_, rfl, ⟨(HA.out.below HB5.out).cells.2.2.2.2.1, (HA.out.below HB5.out).cells.2.2.2.2.2.1⟩, fun hHeld => ?_⟩
      (try simp only [Act.put, sb_, s0_, s1_])
      refine cq_ Try.func183 ?_
      refine (rules_none.calls A5 c5 ms b.AS b.cS b.lS w5 HC5.out (Kd.R_reads' (HA.out.below HB5.out).states).2.2 (Kd.R_reads' (HA.out.below HB5.out).states).2.1 HVS.out.2).mono ?_
      rw [HQ.out]; rintro e w6 ⟨rfl, hb6⟩; have HB6 := Aside0.mk (below_step HB5.out hb6); clear hb6
      refine ⟨_, rfl, ⟨(HA.out.below HB6.out).cells.2.2.2.2.1, (HA.out.below HB6.out).cells.2.2.2.2.2.1⟩, fun hHeld => ?_⟩
      (try simp only [Act.put, sb_, s0_, s1_])
      iterate 2 (first | refine pq_ ?_ | refine tq_ hHeld ?_)
      refine dn_ (by kernel_rfl) ?_
      go_wp2
      go_ret
      exact ⟨rfl, HB6.out⟩
  · rw [if_neg c1] at h
    obtain rfl := Option.some.inj h
    have c1b : (t != a1) = true := bne_iff_ne.mpr c1
    clear c1 h
    go_enter Try.func171, Try.ntmps171
    go_wp2_with fail
    refine rs_ 23 [0, 2, 1, 3, 4, 5, 6, 7, 8, 9, 10, 11, 12, 13, 14, 15, 16, 17, 18, 19, 20, 21, 22] (fun w' => w'.cell? ⟨B, 4, none⟩ = some (.slice b.AV b.lV.length b.cV) ∧ w'.cell? ⟨B, 5, none⟩ = some (.slice b.AS b.lS.length b.cS)) rfl (by kernel_rfl) ⟨(HA.out.below (below_drew1 (Below.refl _ _))).cells.2.2.2.2.1, (HA.out.below (below_drew1 (Below.refl _ _))).cells.2.2.2.2.2.1⟩ (fun hHeld => ?_)
    iterate 2 (first | refine pq_ ?_ | refine tq_ hHeld ?_)
    refine cq_ Try.func182 ?_
    refine (term_Type.calls k A0 c0 l0 t _ (Kd.C_drew HR.out) hc0 HT.out).mono ?_
    rintro e w2 ⟨rfl, hb2⟩; have HB2 := Aside0.mk (below_step (below_drew1 (Below.refl _ W)) hb2); clear hb2
    refine ⟨_, rfl, ⟨(HA.out.below HB2.out).cells.2.2.2.2.1, (HA.out.below HB2.out).cells.2.2.2.2.2.1⟩, fun hHeld => ?_⟩
    (try simp only [Act.put, sb_, s0_, s1_])
    iterate 20 (first | refine pq_ ?_ | refine tq_ hHeld ?_)
    refine dn_ (by kernel_rfl) ?_
    go_wp2
    go_ret
    exact ⟨rfl, HB2.out⟩


/-! ### rules_book_acts: function 153 -/
-- USES (*semblance/rules.book).foreign
-- USES slices.ContainsFunc[[]semblance/api.Act,semblance/api.Act]
/-- is an act not of the chart? -/
def rules_acts.one (k : Nat) (b : rules_bk.Bk) (x : S189) : Option Bool := if rules_at b.lV x.f0 < 0 then some true else if x.f1 = true then some false else rules_foreign.f k b x.f2 1
def rules_acts.f (k : Nat) (b : rules_bk.Bk) (l : List (S189)) : Option Bool := if (l.all fun x => (rules_acts.one k b x).isSome) = true then some (l.any fun x => (rules_acts.one k b x).getD false) else none
theorem rules_acts.one_mono : ∀ b x k, LeO (rules_acts.one k b x) (rules_acts.one (k + 1) b x) := by
  intro b x k
  unfold rules_acts.one
  exact LeO.ite (LeO.refl _) (LeO.ite (LeO.refl _) (rules_foreign.mono _ _ _ k))
theorem rules_acts.mono : ∀ b l k, LeO (rules_acts.f k b l) (rules_acts.f (k + 1) b l) := by
  intro b l k r h
  unfold rules_acts.f at h ⊢
  split at h
  case isFalse => cases h
  case isTrue hall =>
    have h1 := List.all_eq_true.1 hall
    have h2 : ∀ x ∈ l, rules_acts.one (k + 1) b x = rules_acts.one k b x := fun x hx => by
      obtain ⟨v, hv⟩ := Option.isSome_iff_exists.1 (h1 x hx)
      rw [hv]
      exact rules_acts.one_mono b x k v hv
    rw [if_pos (List.all_eq_true.2 fun x hx => by rw [h2 x hx]; exact h1 x hx)]
    rw [← h]
    congr 1
    refine Bool.eq_iff_iff.2 ?_
    simp only [List.any_eq_true]
    exact ⟨fun ⟨x, hx, h3⟩ => ⟨x, hx, by rw [← h2 x hx]; exact h3⟩, fun ⟨x, hx, h3⟩ => ⟨x, hx, by rw [h2 x hx]; exact h3⟩⟩
instance rules_acts.lc : ∀ b l k, LeC (rules_acts.f k b l) (rules_acts.f (k + 1) b l) := fun b l k => ⟨rules_acts.mono b l k⟩
theorem rules_acts.any {k : Nat} {b : rules_bk.Bk} {l : List (S189)} {r : Bool} (h : rules_acts.f k b l = some r) : (∀ x ∈ l, rules_acts.one k b x = some ((rules_acts.one k b x).getD false)) ∧ l.any (fun x => (rules_acts.one k b x).getD false) = r := by
  unfold rules_acts.f at h
  split at h
  case isFalse => cases h
  case isTrue hall =>
    refine ⟨fun x hx => ?_, Option.some.inj h⟩
    obtain ⟨v, hv⟩ := Option.isSome_iff_exists.1 (List.all_eq_true.1 hall x hx)
    rw [hv]
    rfl
set_option maxHeartbeats 4000000 in
set_option maxRecDepth 100000 in
open Go.Proofs.Ytbkaiojofgmbnaa.XReg in
theorem rules_acts.lit (k : Nat) (n₁ n₀ B g : Nat) (b : rules_bk.Bk) (out : List (S64)) (vo : Value) (x : S189) (A2 : Option Addr) (c2 : Nat) (r : Bool) (W : World) (hA : rules_bk.At n₁ n₀ W B b out vo) (hV : b.lV.length ≤ 100000) (hS : b.lS.length ≤ 100000)
    (hg : W.cell? ⟨g, 0, none⟩ = some (.pointer (some ⟨B, 0, none⟩))) (hr2 : Kd.C k214 W A2 x.f2.length x.f2) (hc2 : x.f2.length ≤ c2) (h : rules_acts.one k b x = some r) :
    Calls Try.prog 170 #[.agg #[.string x.f0, .bool x.f1, .slice A2 x.f2.length c2], .pointer (some ⟨g, 0, none⟩)] W fun e w' => e = .returned (.bool r) ∧ Below W.heap.size W w' := by
  unfold rules_acts.one at h
  have hu := Try.underlying159
  have hu2 := Try.underlying189
  obtain ⟨w1, hw1⟩ : ∃ w1, w1 = W.alloc (.cells #[.string x.f0, .bool x.f1, .slice A2 x.f2.length c2] 189) := ⟨_, rfl⟩
  have hb1 : Below W.heap.size W w1 := by rw [hw1]; exact (Below.refl _ _).alloc (Nat.le_refl _) _
  have hk1 : w1.heap[W.heap.size]? = some (.cells #[.string x.f0, .bool x.f1, .slice A2 x.f2.length c2] 189 (0, 0)) := by rw [hw1]; exact heap_alloc_new W _
  have hg1 : w1.cell? ⟨g, 0, none⟩ = some (.pointer (some ⟨B, 0, none⟩)) := pw_cell_below hb1 hg
  have HS : Aside0 (∀ w', Below w1.heap.size w1 w' → w'.cell? ⟨g, 0, none⟩ = some (.pointer (some ⟨B, 0, none⟩)) ∧ w'.cell? ⟨B, 4, none⟩ = some (.slice b.AV b.lV.length b.cV) ∧ w'.cell? ⟨W.heap.size, 0, none⟩ = some (.string x.f0) ∧ w'.cell? ⟨W.heap.size, 1, none⟩ = some (.bool x.f1) ∧ w'.cell? ⟨W.heap.size, 2, none⟩ = some (.slice A2 x.f2.length c2)) := ⟨fun w' hb => by
    obtain ⟨h0, h1, h2⟩ := cz3_ (blk_below hk1 hb)
    exact ⟨pw_cell_below hb hg1, ((hA.below hb1).below hb).cells.2.2.2.2.1, h0, h1, h2⟩⟩
  have HA := Aside0.mk (hA.below hb1)
  have HR := Aside0.mk (Kd.C_below hr2 hb1)
  have HB1 := Aside0.mk hb1
  have HP := Aside0.mk (fun w' (hb : Below w1.heap.size w1 w') => rules_at.place b.AV b.cV b.lV x.f0 w' (Kd.R_reads' ((hA.below hb1).below hb).vars).2.2 (Kd.R_reads' ((hA.below hb1).below hb).vars).2.1 hV)
  have HVS := Aside0.mk (And.intro hV hS)
  clear hA hr2 hb1 hk1 hg1 hg hV hS
  generalize rules_at b.lV x.f0 = q at *
  by_cases c1 : q < 0
  · rw [if_pos c1] at h
    obtain rfl := Option.some.inj h
    have c1b : decide (q < 0) = true := decide_eq_true c1
    clear c1 h
    subst hw1
    go_enter Try.func170, Try.ntmps170
    go_wp2_with fail
    refine rs_ 20 [0, 1, 2, 3, 4, 5, 6, 7, 8, 9, 10, 11, 12, 13, 14, 15, 16, 17, 18, 19] (fun w' => w'.cell? ⟨g, 0, none⟩ = some (.pointer (some ⟨B, 0, none⟩)) ∧ w'.cell? ⟨B, 4, none⟩ = some (.slice b.AV b.lV.length b.cV) ∧ w'.cell? ⟨W.heap.size, 0, none⟩ = some (.string x.f0) ∧ w'.cell? ⟨W.heap.size, 1, none⟩ = some (.bool x.f1) ∧ w'.cell? ⟨W.heap.size, 2, none⟩ = some (.slice A2 x.f2.length c2)) rfl (by kernel_rfl) (HS.out _ (below_drew1 (Below.refl _ _))) (fun hHeld => ?_)
    iterate 6 (first | refine pq_ ?_ | refine tq_ hHeld ?_)
    refine cq_ Try.func39 ?_
    refine (HP.out _ (below_drew1 (Below.refl _ _))).mono ?_
    rintro e w2 ⟨rfl, hd2⟩; have HB2 := Aside0.mk (below_step (below_drew1 (Below.refl _ _)) hd2.below); clear hd2
    refine ⟨_, rfl, HS.out _ HB2.out, fun hHeld => ?_⟩
    (try simp only [Act.put, sb_, s0_, s1_])
    iterate 13 (first | refine pq_ ?_ | refine tq_ hHeld ?_)
    refine dn_ (by kernel_rfl) ?_
    go_wp2
    go_ret
    exact ⟨rfl, (below_step HB1.out HB2.out)⟩
  · rw [if_neg c1] at h
    have c1b : decide (q < 0) = false := decide_eq_false c1
    clear c1
    by_cases cx : x.f1 = true
    · rw [if_pos cx] at h
      obtain rfl := Option.some.inj h
      clear h
      rw [cx] at HS
      rw [cx] at hw1
      rw [cx]
      clear cx
      subst hw1
      go_enter Try.func170, Try.ntmps170
      go_wp2_with fail
      refine rs_ 20 [0, 1, 2, 3, 4, 5, 6, 7, 8, 9, 10, 11, 12, 13, 14, 15, 16, 17, 18, 19] (fun w' => w'.cell? ⟨g, 0, none⟩ = some (.pointer (some ⟨B, 0, none⟩)) ∧ w'.cell? ⟨B, 4, none⟩ = some (.slice b.AV b.lV.length b.cV) ∧ w'.cell? ⟨W.heap.size, 0, none⟩ = some (.string x.f0) ∧ w'.cell? ⟨W.heap.size, 1, none⟩ = some (.bool true) ∧ w'.cell? ⟨W.heap.size, 2, none⟩ = some (.slice A2 x.f2.length c2)) rfl (by kernel_rfl) (HS.out _ (below_drew1 (Below.refl _ _))) (fun hHeld => ?_)
      iterate 6 (first | refine pq_ ?_ | refine tq_ hHeld ?_)
      refine cq_ Try.func39 ?_
      refine (HP.out _ (below_drew1 (Below.refl _ _))).mono ?_
      rintro e w2 ⟨rfl, hd2⟩; have HB2 := Aside0.mk (below_step (below_drew1 (Below.refl _ _)) hd2.below); clear hd2
      refine ⟨_, rfl, HS.out _ HB2.out, fun hHeld => ?_⟩
      (try simp only [Act.put, sb_, s0_, s1_])
      iterate 13 (first | refine pq_ ?_ | refine tq_ hHeld ?_)
      refine dn_ (by kernel_rfl) ?_
      go_wp2
      go_ret
      exact ⟨rfl, (below_step HB1.out HB2.out)⟩
    · rw [if_neg cx] at h
      have cx := Bool.eq_false_iff.2 cx
      rw [cx] at HS
      rw [cx] at hw1
      rw [cx]
      clear cx
      have HH := Aside0.mk h
      clear h
      subst hw1
      go_enter Try.func170, Try.ntmps170
      go_wp2_with fail
      refine rs_ 20 [0, 1, 2, 3, 4, 5, 6, 7, 8, 9, 10, 11, 12, 13, 14, 15, 16, 17, 18, 19] (fun w' => w'.cell? ⟨g, 0, none⟩ = some (.pointer (some ⟨B, 0, none⟩)) ∧ w'.cell? ⟨B, 4, none⟩ = some (.slice b.AV b.lV.length b.cV) ∧ w'.cell? ⟨W.heap.size, 0, none⟩ = some (.string x.f0) ∧ w'.cell? ⟨W.heap.size, 1, none⟩ = some (.bool false) ∧ w'.cell? ⟨W.heap.size, 2, none⟩ = some (.slice A2 x.f2.length c2)) rfl (by kernel_rfl) (HS.out _ (below_drew1 (Below.refl _ _))) (fun hHeld => ?_)
      iterate 6 (first | refine pq_ ?_ | refine tq_ hHeld ?_)
      refine cq_ Try.func39 ?_
      refine (HP.out _ (below_drew1 (Below.refl _ _))).mono ?_
      rintro e w2 ⟨rfl, hd2⟩; have HB2 := Aside0.mk (below_step (below_drew1 (Below.refl _ _)) hd2.below); clear hd2
      refine ⟨_, rfl, HS.out _ HB2.out, fun hHeld => ?_⟩
      (try simp only [Act.put, sb_, s0_, s1_])
      iterate 9 (first | refine pq_ ?_ | refine tq_ hHeld ?_)
      refine cq_ Try.func171 ?_
      refine (rules_foreign.calls k n₁ n₀ B b out vo A2 c2 x.f2 1 r _ (HA.out.below HB2.out) HVS.out.1 HVS.out.2 (Kd.C_below HR.out HB2.out) hc2 HH.out).mono ?_
      rintro e w3 ⟨rfl, hb3⟩; have HB3 := Aside0.mk (below_step HB2.out hb3); clear hb3
      refine ⟨_, rfl, HS.out _ HB3.out, fun hHeld => ?_⟩
      (try simp only [Act.put, sb_, s0_, s1_])
      iterate 3 (first | refine pq_ ?_ | refine tq_ hHeld ?_)
      refine dn_ (by kernel_rfl) ?_
      go_wp2
      go_ret
      exact ⟨rfl, (below_step HB1.out HB3.out)⟩

set_option maxHeartbeats 4000000 in
theorem rules_acts.calls (k : Nat) (n₁ n₀ B : Nat) (b : rules_bk.Bk) (out : List (S64)) (vo : Value) (A0 : Option Addr) (c0 : Nat) (l0 : List (S189)) (r : Bool) (W : World) (hA : rules_bk.At n₁ n₀ W B b out vo) (hV : b.lV.length ≤ 100000) (hS : b.lS.length ≤ 100000)
    (hr0 : Kd.C k189 W A0 l0.length l0) (h : rules_acts.f k b l0 = some r) :
    Calls Try.prog 153 #[.pointer (some ⟨B, 0, none⟩), .slice A0 l0.length c0] W fun e w' => e = .returned (.bool r) ∧ Below W.heap.size W w' := by
  obtain ⟨h1, h2⟩ := rules_acts.any h
  have eg := Go.Proofs.enters_of Try.func170 (by kernel_rfl) rfl
  have hb1 : Below W.heap.size W (W.alloc (.cells #[.pointer (some ⟨B, 0, none⟩)] 156)) := (Below.refl _ _).alloc (Nat.le_refl _) _
  have hcs := cell_of_one (heap_alloc_new W (.cells #[.pointer (some ⟨B, 0, none⟩)] 156))
  have hcall := ContainsFunc_Act.calls (fun x => (rules_acts.one k b x).getD false) 170 #[.pointer (some ⟨W.heap.size, 0, none⟩)] eg A0 c0 l0 _ (Kd.C_below hr0 hb1)
    (fun W2 hb2 x hx A2 c2 hk => by
      obtain ⟨A2', c2', e, hl, hC⟩ := k189_open hk
      simp only [List.cons.injEq, Value.slice.injEq, and_true, true_and] at e
      obtain ⟨rfl, rfl⟩ := e
      exact (rules_acts.lit k n₁ n₀ B W.heap.size b out vo x A2 c2 _ W2 ((hA.below hb1).below hb2) hV hS ((hb2.cell (p := ⟨W.heap.size, 0, none⟩) (by simp)).trans hcs) hC hl (h1 x hx)).mono fun e w' ⟨he, hw⟩ => ⟨he, hb2.trans (hw.mono hb2.size)⟩)
  rw [h2] at hcall
  have HC := Aside0.mk hcall
  have HB := Aside0.mk hb1
  clear hr0 hcs hb1 hcall hA h h1 h2
  go_enter Try.func153, Try.ntmps153
  go_wp2_with (go_at_call 154; refine HC.out.mono ?_; rintro e w' ⟨rfl, hb⟩)
  go_ret
  exact ⟨rfl, HB.out.trans (hb.mono HB.out.size)⟩


/-! ### rules_book_bad: function 155 -/
-- USES (*semblance/rules.book).foreign
-- USES (*semblance/rules.book).acts
/-- does a transition break the rule? -/
def rules_bad.f (k : Nat) (b : rules_bk.Bk) (x : S182) : Option Bool :=
  if b.rule = 6 then some (if x.f0.toList = ([] : List UInt8) then false else decide (rules_at b.l1 x.f0 < 0))
  else if b.rule = 7 then some (if x.f3.toList = ([] : List UInt8) then false else decide (rules_at b.lS x.f3 < 0))
  else if b.rule = 8 then (if (x.f1.length : Int) > 0 then rules_foreign.f k b x.f1 2 else some false)
  else if b.rule = 9 then rules_acts.f k b x.f2 else some false
theorem rules_bad.mono : ∀ b x k, LeO (rules_bad.f k b x) (rules_bad.f (k + 1) b x) := by
  intro b x k
  unfold rules_bad.f
  exact LeO.ite (LeO.refl _) (LeO.ite (LeO.refl _) (LeO.ite (LeO.ite (rules_foreign.mono _ _ _ k) (LeO.refl _)) (LeO.ite (rules_acts.mono _ _ k) (LeO.refl _))))
instance rules_bad.lc : ∀ b x k, LeC (rules_bad.f k b x) (rules_bad.f (k + 1) b x) := fun b x k => ⟨rules_bad.mono b x k⟩
set_option maxHeartbeats 8000000 in
set_option maxRecDepth 100000 in
open Go.Proofs.Ytbkaiojofgmbnaa.XReg in
theorem rules_bad.calls (k : Nat) (n₁ n₀ B : Nat) (b : rules_bk.Bk) (out : List (S64)) (vo : Value) (x : S182) (A1 : Option Addr) (c1 : Nat) (A2 : Option Addr) (c2 : Nat) (r : Bool) (W : World) (hA : rules_bk.At n₁ n₀ W B b out vo) (hV : b.lV.length ≤ 100000) (hS : b.lS.length ≤ 100000)
    (hE : Kd.C Kd.string W b.A1 b.l1.length b.l1) (hcE : b.l1.length ≤ b.c1) (hE2 : b.l1.length ≤ 100000) (hr1 : Kd.C k214 W A1 x.f1.length x.f1) (hc1 : x.f1.length ≤ c1) (hr2 : Kd.C k189 W A2 x.f2.length x.f2) (hc2 : x.f2.length ≤ c2) (h : rules_bad.f k b x = some r) :
    Calls Try.prog 155 #[.pointer (some ⟨B, 0, none⟩), .agg #[.string x.f0, .slice A1 x.f1.length c1, .slice A2 x.f2.length c2, .string x.f3]] W fun e w' => e = .returned (.bool r) ∧ Below W.heap.size W w' := by
  unfold rules_bad.f at h
  have hu := Try.underlying159
  have hu2 := Try.underlying182
  have hu3 := Try.underlying112
  obtain ⟨w1, hw1⟩ : ∃ w1, w1 = W.alloc (.cells #[.string x.f0, .slice A1 x.f1.length c1, .slice A2 x.f2.length c2, .string x.f3] 182) := ⟨_, rfl⟩
  have hb1 : Below W.heap.size W w1 := by rw [hw1]; exact (Below.refl _ _).alloc (Nat.le_refl _) _
  have hk1 : w1.heap[W.heap.size]? = some (.cells #[.string x.f0, .slice A1 x.f1.length c1, .slice A2 x.f2.length c2, .string x.f3] 182 (0, 0)) := by rw [hw1]; exact heap_alloc_new W _
  have HS : Aside0 (∀ w', Below w1.heap.size w1 w' → w'.cell? ⟨B, 1, none⟩ = some (.slice b.A1 b.l1.length b.c1) ∧ w'.cell? ⟨B, 5, none⟩ = some (.slice b.AS b.lS.length b.cS) ∧ w'.cell? ⟨W.heap.size, 0, none⟩ = some (.string x.f0) ∧ w'.cell? ⟨W.heap.size, 3, none⟩ = some (.string x.f3)) := ⟨fun w' hb => by
    obtain ⟨h0, h1, h2, h3⟩ := cz4_ (blk_below hk1 hb)
    have hc := ((hA.below hb1).below hb).cells
    exact ⟨hc.2.1, hc.2.2.2.2.2.1, h0, h3⟩⟩
  have HA := Aside0.mk (hA.below hb1)
  have HR1 := Aside0.mk (Kd.C_below hr1 hb1)
  have HR2 := Aside0.mk (Kd.C_below hr2 hb1)
  have HB1 := Aside0.mk hb1
  have HPE := Aside0.mk (fun w' (hb : Below w1.heap.size w1 w') => rules_at.place b.A1 b.c1 b.l1 x.f0 w' (Kd.C_below (Kd.C_below hE hb1) hb) hcE hE2)
  have HPS := Aside0.mk (fun w' (hb : Below w1.heap.size w1 w') => rules_at.place b.AS b.cS b.lS x.f3 w' (Kd.R_reads' ((hA.below hb1).below hb).states).2.2 (Kd.R_reads' ((hA.below hb1).below hb).states).2.1 hS)
  have HVS := Aside0.mk (And.intro hV hS)
  have HCE := Aside0.mk (And.intro (cz4_ hk1) (hA.below hb1).cells.2.2.2.2.2.2.1)
  clear hA hr1 hr2 hb1 hk1 hE hE2 hV hS
  have hcr := HCE.out.2
  by_cases c6 : b.rule = 6
  · rw [if_pos c6] at h
    have c6b : (b.rule == 6) = true := beq_iff_eq.mpr c6
    clear c6
    by_cases ce : x.f0.toList = ([] : List UInt8)
    · rw [if_pos ce] at h
      obtain rfl := Option.some.inj h
      have ceb0 : (x.f0.toList == ([] : List UInt8)) = true := beq_iff_eq.mpr ce
      have ceb1 : (x.f0.toList != ([] : List UInt8)) = false := bne_eq_false_iff_eq.mpr ce
      clear h ce
      subst hw1
      go_enter Try.func155, Try.ntmps155
      go_wp2_with fail
      refine rs_ 15 [0, 1, 2, 3, 4, 5, 6, 7, 8, 9, 10, 11, 12, 13, 14] (fun w' => w'.cell? ⟨B, 1, none⟩ = some (.slice b.A1 b.l1.length b.c1) ∧ w'.cell? ⟨B, 5, none⟩ = some (.slice b.AS b.lS.length b.cS) ∧ w'.cell? ⟨W.heap.size, 0, none⟩ = some (.string x.f0) ∧ w'.cell? ⟨W.heap.size, 3, none⟩ = some (.string x.f3)) rfl (by kernel_rfl) (HS.out _ (below_drew1 (Below.refl _ _))) (fun hHeld => ?_)
      iterate 15 (first | refine pq_ ?_ | refine tq_ hHeld ?_)
      refine dn_ (by kernel_rfl) ?_
      go_wp2
      go_ret
      exact ⟨rfl, (below_step HB1.out (below_drew1 (Below.refl _ _)))⟩
    · rw [if_neg ce] at h
      obtain rfl := Option.some.inj h
      have ceb0 : (x.f0.toList == ([] : List UInt8)) = false := beq_eq_false_iff_ne.mpr ce
      have ceb1 : (x.f0.toList != ([] : List UInt8)) = true := bne_iff_ne.mpr ce
      clear h ce
      generalize rules_at b.l1 x.f0 = q at *
      subst hw1
      go_enter Try.func155, Try.ntmps155
      go_wp2_with fail
      refine rs_ 15 [0, 1, 2, 3, 4, 5, 6, 7, 8, 9, 10, 11, 12, 13, 14] (fun w' => w'.cell? ⟨B, 1, none⟩ = some (.slice b.A1 b.l1.length b.c1) ∧ w'.cell? ⟨B, 5, none⟩ = some (.slice b.AS b.lS.length b.cS) ∧ w'.cell? ⟨W.heap.size, 0, none⟩ = some (.string x.f0) ∧ w'.cell? ⟨W.heap.size, 3, none⟩ = some (.string x.f3)) rfl (by kernel_rfl) (HS.out _ (below_drew1 (Below.refl _ _))) (fun hHeld => ?_)
      iterate 11 (first | refine pq_ ?_ | refine tq_ hHeld ?_)
      refine cq_ Try.func39 ?_
      refine (HPE.out _ (below_drew1 (Below.refl _ _))).mono ?_
      rintro e w2 ⟨rfl, hd2⟩; have HB2 := Aside0.mk (below_step (below_drew1 (Below.refl _ _)) hd2.below); clear hd2
      refine ⟨_, rfl, HS.out _ HB2.out, fun hHeld => ?_⟩
      (try simp only [Act.put, sb_, s0_, s1_])
      iterate 3 (first | refine pq_ ?_ | refine tq_ hHeld ?_)
      refine dn_ (by kernel_rfl) ?_
      go_wp2
      go_ret
      exact ⟨rfl, (below_step HB1.out HB2.out)⟩
  rw [if_neg c6] at h
  have c6b : (b.rule == 6) = false := beq_eq_false_iff_ne.mpr c6
  clear c6
  by_cases c7 : b.rule = 7
  · rw [if_pos c7] at h
    have c7b : (b.rule == 7) = true := beq_iff_eq.mpr c7
    clear c7
    by_cases ce : x.f3.toList = ([] : List UInt8)
    · rw [if_pos ce] at h
      obtain rfl := Option.some.inj h
      have ceb0 : (x.f3.toList == ([] : List UInt8)) = true := beq_iff_eq.mpr ce
      have ceb1 : (x.f3.toList != ([] : List UInt8)) = false := bne_eq_false_iff_eq.mpr ce
      clear h ce
      subst hw1
      go_enter Try.func155, Try.ntmps155
      go_wp2_with fail
      refine rs_ 14 [0, 1, 2, 3, 4, 5, 6, 7, 8, 9, 10, 11, 12, 13] (fun w' => w'.cell? ⟨B, 1, none⟩ = some (.slice b.A1 b.l1.length b.c1) ∧ w'.cell? ⟨B, 5, none⟩ = some (.slice b.AS b.lS.length b.cS) ∧ w'.cell? ⟨W.heap.size, 0, none⟩ = some (.string x.f0) ∧ w'.cell? ⟨W.heap.size, 3, none⟩ = some (.string x.f3)) rfl (by kernel_rfl) (HS.out _ (below_drew1 (Below.refl _ _))) (fun hHeld => ?_)
      iterate 14 (first | refine pq_ ?_ | refine tq_ hHeld ?_)
      refine dn_ (by kernel_rfl) ?_
      go_wp2
      go_ret
      exact ⟨rfl, (below_step HB1.out (below_drew1 (Below.refl _ _)))⟩
    · rw [if_neg ce] at h
      obtain rfl := Option.some.inj h
      have ceb0 : (x.f3.toList == ([] : List UInt8)) = false := beq_eq_false_iff_ne.mpr ce
      have ceb1 : (x.f3.toList != ([] : List UInt8)) = true := bne_iff_ne.mpr ce
      clear h ce
      generalize rules_at b.lS x.f3 = q at *
      subst hw1
      go_enter Try.func155, Try.ntmps155
      go_wp2_with fail
      refine rs_ 14 [0, 1, 2, 3, 4, 5, 6, 7, 8, 9, 10, 11, 12, 13] (fun w' => w'.cell? ⟨B, 1, none⟩ = some (.slice b.A1 b.l1.length b.c1) ∧ w'.cell? ⟨B, 5, none⟩ = some (.slice b.AS b.lS.length b.cS) ∧ w'.cell? ⟨W.heap.size, 0, none⟩ = some (.string x.f0) ∧ w'.cell? ⟨W.heap.size, 3, none⟩ = some (.string x.f3)) rfl (by kernel_rfl) (HS.out _ (below_drew1 (Below.refl _ _))) (fun hHeld => ?_)
      iterate 10 (first | refine pq_ ?_ | refine tq_ hHeld ?_)
      refine cq_ Try.func39 ?_
      refine (HPS.out _ (below_drew1 (Below.refl _ _))).mono ?_
      rintro e w2 ⟨rfl, hd2⟩; have HB2 := Aside0.mk (below_step (below_drew1 (Below.refl _ _)) hd2.below); clear hd2
      refine ⟨_, rfl, HS.out _ HB2.out, fun hHeld => ?_⟩
      (try simp only [Act.put, sb_, s0_, s1_])
      iterate 3 (first | refine pq_ ?_ | refine tq_ hHeld ?_)
      refine dn_ (by kernel_rfl) ?_
      go_wp2
      go_ret
      exact ⟨rfl, (below_step HB1.out HB2.out)⟩
  rw [if_neg c7] at h
  have c7b : (b.rule == 7) = false := beq_eq_false_iff_ne.mpr c7
  clear c7
  obtain ⟨⟨ht0, ht1, ht2, ht3⟩, _⟩ := HCE.out
  by_cases c8 : b.rule = 8
  · rw [if_pos c8] at h
    have c8b : (b.rule == 8) = true := beq_iff_eq.mpr c8
    clear c8
    by_cases cg : (x.f1.length : Int) > 0
    · rw [if_pos cg] at h
      have cgb : 0 < x.f1.length := by omega
      have HH := Aside0.mk h
      clear h cg
      subst hw1
      go_enter Try.func155, Try.ntmps155
      go_wp2_with (go_at_call 171; refine (rules_foreign.calls k n₁ n₀ B b out vo A1 c1 x.f1 2 r _ HA.out HVS.out.1 HVS.out.2 HR1.out hc1 HH.out).mono ?_; rintro e w3 ⟨rfl, hb3⟩; have HB3 := Aside0.mk hb3; clear hb3)
      go_ret
      exact ⟨rfl, below_step HB1.out HB3.out⟩
    · rw [if_neg cg] at h
      obtain rfl := Option.some.inj h
      have cgb : ¬ 0 < x.f1.length := by omega
      clear h cg
      subst hw1
      go_enter Try.func155, Try.ntmps155
      go_wp2
      go_ret
      exact ⟨rfl, HB1.out⟩
  rw [if_neg c8] at h
  have c8b : (b.rule == 8) = false := beq_eq_false_iff_ne.mpr c8
  clear c8
  by_cases c9 : b.rule = 9
  · rw [if_pos c9] at h
    have c9b : (b.rule == 9) = true := beq_iff_eq.mpr c9
    have HH := Aside0.mk h
    clear h c9
    subst hw1
    go_enter Try.func155, Try.ntmps155
    go_wp2_with (go_at_call 153; refine (rules_acts.calls k n₁ n₀ B b out vo A2 c2 x.f2 r _ HA.out HVS.out.1 HVS.out.2 HR2.out HH.out).mono ?_; rintro e w3 ⟨rfl, hb3⟩; have HB3 := Aside0.mk hb3; clear hb3)
    go_ret
    exact ⟨rfl, below_step HB1.out HB3.out⟩
  · rw [if_neg c9] at h
    obtain rfl := Option.some.inj h
    have c9b : (b.rule == 9) = false := beq_eq_false_iff_ne.mpr c9
    clear h c9
    subst hw1
    go_enter Try.func155, Try.ntmps155
    go_wp2
    go_ret
    exact ⟨rfl, HB1.out⟩


/-! ### rules_book_transitions: function 124 -/
-- USES (*semblance/rules.book).ranges
-- USES (*semblance/rules.book).bad
theorem rules_if {α : Type} (c : Bool) (X : List α) (f : α) : X ++ (if c = true then [f] else []) = if c = true then X ++ [f] else X := by cases c <;> simp
def rules_transitions.one (k : Nat) (b : rules_bk.Bk) (i : Nat) (l : List (S182)) (m : Nat) : List (S64) := if (rules_bad.f k b (rd_T182 l (m : Int))).getD false = true then [⟨b.rule, (i : Int), (m : Int)⟩] else []
def rules_transitions.at_ (k : Nat) (b : rules_bk.Bk) (i : Nat) : List (S64) := rules_all (rd_T108 b.l3 (i : Int)).f5.length (rules_transitions.one k b i (rd_T108 b.l3 (i : Int)).f5)
def rules_transitions.f (k : Nat) (b : rules_bk.Bk) : Option (List (S64)) := if ((List.range b.l3.length).all fun i => (List.range (rd_T108 b.l3 (i : Int)).f5.length).all fun m => (rules_bad.f k b (rd_T182 (rd_T108 b.l3 (i : Int)).f5 (m : Int))).isSome) = true then some (rules_all b.l3.length (rules_transitions.at_ k b)) else none
theorem rules_transitions.parts {k : Nat} {b : rules_bk.Bk} {fl : List (S64)} (h : rules_transitions.f k b = some fl) : (∀ i, i < b.l3.length → ∀ m, m < (rd_T108 b.l3 (i : Int)).f5.length → ∃ v, rules_bad.f k b (rd_T182 (rd_T108 b.l3 (i : Int)).f5 (m : Int)) = some v) ∧ rules_all b.l3.length (rules_transitions.at_ k b) = fl := by
  unfold rules_transitions.f at h
  split at h
  case isFalse => cases h
  case isTrue hall => exact ⟨fun i hi m hm => Option.isSome_iff_exists.1 (List.all_eq_true.1 (List.all_eq_true.1 hall i (List.mem_range.2 hi)) m (List.mem_range.2 hm)), Option.some.inj h⟩
set_option maxHeartbeats 16000000 in
set_option maxRecDepth 100000 in
theorem rules_transitions.calls (k : Nat) (w : World) (n₀ B : Nat) (b : rules_bk.Bk) (out : List (S64)) (vo : Value) (W : World) (hA : rules_bk.At w.heap.size n₀ W B b out vo) (hW : Below w.heap.size w W) (hr3 : Kd.C k108 w b.A3 b.l3.length b.l3) (hc3 : b.l3.length ≤ b.c3) (hV : b.lV.length ≤ 100000) (hS : b.lS.length ≤ 100000) (hr1 : Kd.C Kd.string w b.A1 b.l1.length b.l1) (hcE : b.l1.length ≤ b.c1) (hE2 : b.l1.length ≤ 100000) (fl : List (S64)) (h : rules_transitions.f k b = some fl)
    (hlen : (out ++ fl).length ≤ 1000000) :
    Calls Try.prog 124 #[.pointer (some ⟨B, 0, none⟩)] W fun e W' => (∃ u, e = .returned u) ∧ (∃ vo', rules_bk.At w.heap.size n₀ W' B b (out ++ fl) vo') ∧ rules_bk.Fr w.heap.size n₀ B W W' := by
  obtain ⟨hok, rfl⟩ := rules_transitions.parts h
  have hmax := Kd.C_max hr3
  have hu := Try.underlying159
  have hu2 := Try.underlying112
  have hu3 := Try.underlying108
  obtain ⟨hc0, hc1, hc2, hc3', hc4, hc5, hc6, hc7⟩ := hA.cells
  have HR := Aside0.mk hr3
  have HA := Aside0.mk hA
  have HW := Aside0.mk hW
  have HL := Aside0.mk hlen
  have HOK := Aside0.mk hok
  have HVS := Aside0.mk (And.intro hV hS)
  have HE := Aside0.mk hr1
  have HC3 := Aside0.mk hc3
  have hu4 := Try.underlying182
  clear hr1 hV hS hc3 hr3 hA hW hlen hc0 hc1 hc2 hc4 hc5 hc6 hc7 hok h
  go_enter Try.func124, Try.ntmps124
  go_wp2_with fail
  clear hc3'
  generalize hAS : b.A3 = AS3 at *
  have HAS := Aside0.mk hAS
  clear hAS
  go_loopg [12] b.l3.length (fun kq v9 wr => ∃ (i : Nat) (vo' : Value), Aside0 (b.l3.length - i = kq) ∧ Aside0 (i ≤ b.l3.length) ∧ v9 = .int .i64 (i : Int) ∧ Aside0 (rules_bk.At w.heap.size n₀ wr B b (out ++ rules_all i (rules_transitions.at_ k b)) vo') ∧ Aside0 (rules_bk.Fr w.heap.size n₀ B W wr))
  case atStart => exact ⟨0, vo, ⟨rfl⟩, ⟨Nat.zero_le _⟩, rfl, ⟨by simpa [rules_all] using HA.out⟩, ⟨rules_bk.Fr.refl _ _ _ _⟩⟩
  case round =>
    obtain ⟨i, vo', HK, HI, rfl, HAt, HFr⟩ := hrel
    by_cases hi : i < b.l3.length
    · have hlt : decide ((i : Int) < (b.l3.length : Int)) = true := decide_eq_true (by omega)
      obtain ⟨ad, A3, c3, A4, c4, A5, c5, e1, hx0, hx1, hx2, hx3, hx4, hx5, hl3, hi3, hl4, hi4, hl5, hi5⟩ := at_T108 HR.out (i : Int) (by omega) (by omega)
      subst e1
      rw [Int.toNat_natCast] at hx0 hx1 hx2 hx3 hx4 hx5
      have HBR := Aside0.mk (HW.out.trans HFr.out.bel)
      replace hx0 := pw_cell_below HBR.out hx0
      replace hx1 := pw_cell_below HBR.out hx1
      replace hx2 := pw_cell_below HBR.out hx2
      replace hx3 := pw_cell_below HBR.out hx3
      replace hx4 := pw_cell_below HBR.out hx4
      replace hx5 := pw_cell_below HBR.out hx5
      have hle : (out ++ rules_all (i + 1) (rules_transitions.at_ k b)).length ≤ 1000000 := by
        have h1 := HL.out
        have h2 := rules_all_le (rules_transitions.at_ k b) (show i + 1 ≤ b.l3.length by omega)
        rw [List.length_append] at h1 ⊢
        omega
      have HLE := Aside0.mk hle
      have HI3 := Aside0.mk hi3
      have HI4 := Aside0.mk hi4
      have HI5 := Aside0.mk hi5
      have hok := HOK.out i hi
      clear hle hi3 hi4 hi5
      have hat : rules_transitions.at_ k b i = rules_all (rd_T108 b.l3 (i : Int)).f5.length (rules_transitions.one k b i (rd_T108 b.l3 (i : Int)).f5) := rfl
      generalize rd_T108 b.l3 (i : Int) = x at *
      have HOK2 := Aside0.mk hok
      have HAT := Aside0.mk hat
      have hm5 := Kd.C_max HI5.out
      clear hok hat
      go_wp2_with (first
          | ((with_reducible refine gate_dst (N := 3) rfl ?_); refine box_event ?hg (N := 3) ?hd (cs := #[.string (⟨#[]⟩ : ByteArray), .int .i64 0, .int .i64 0, .slice none 0 0, .slice none 0 0, .slice none 0 0]) (t := 108) ?hr ?_; (case hd => rfl); (case hg => rfl); (case hr => first | (go_simp; done) | (go_simp; rfl)); intro g hg w1 hbox hb; have HGE := Aside0.mk (Nat.le_of_eq hg.symm); clear hg)
          | (refine rules_store (n := wr.heap.size) (W0 := wr) (vs := #[.string x.f0, .int .i64 x.f1, .int .i64 x.f2, .slice A3 x.f3.length c3, .slice A4 x.f4.length c4, .slice A5 x.f5.length c5]) rfl rfl (.tmp 3) (.tmp 16) rfl rfl rfl hbox (by kernel_rfl) rfl (by simp [Value.oneCell']) hb HGE.out ?_; intro w2 hbox2 hb2; have HA2 := Aside0.mk (HAt.out.below hb2); have HF2 := Aside0.mk (HAt.out.fr hb2); have HB2 := Aside0.mk hb2; obtain ⟨hz0, hz1, hz2, hz3, hz4, hz5⟩ := cz6_ hbox2; clear hbox hb hbox2 hb2))
      go_loopg [20] x.f5.length (fun kq2 v20 wq => ∃ (m : Nat) (vo2 : Value), Aside0 (x.f5.length - m = kq2) ∧ Aside0 (m ≤ x.f5.length) ∧ v20 = .int .i64 (m : Int) ∧ Aside0 (rules_bk.At w.heap.size n₀ wq B b ((out ++ rules_all i (rules_transitions.at_ k b)) ++ rules_all m (rules_transitions.one k b i x.f5)) vo2) ∧ Aside0 (rules_bk.Fr w.heap.size n₀ B w2 wq))
      case atStart => exact ⟨0, vo', ⟨rfl⟩, ⟨Nat.zero_le _⟩, rfl, ⟨by simpa [rules_all] using HA2.out⟩, ⟨rules_bk.Fr.refl _ _ _ _⟩⟩
      case round =>
        obtain ⟨m, vo2, HK2, HM2, rfl, HAq, HFq⟩ := hrel
        by_cases hm : m < x.f5.length
        · have hlt2 : decide ((m : Int) < (x.f5.length : Int)) = true := decide_eq_true (by omega)
          obtain ⟨ad5, B1, d1, B2, d2, e5, hs0, hs1, hs2, hs3, hd1, hi1, hd2, hi2⟩ := at_T182 HI5.out (m : Int) (by omega) (by omega)
          subst e5
          rw [Int.toNat_natCast] at hs0 hs1 hs2 hs3
          have HBQ := Aside0.mk (HBR.out.trans (HF2.out.bel.trans HFq.out.bel))
          replace hs0 := pw_cell_below HBQ.out hs0
          replace hs1 := pw_cell_below HBQ.out hs1
          replace hs2 := pw_cell_below HBQ.out hs2
          replace hs3 := pw_cell_below HBQ.out hs3
          have HI1 := Aside0.mk hi1
          have HI2 := Aside0.mk hi2
          obtain ⟨rb, hrb⟩ := HOK2.out m hm
          have hone : rules_transitions.one k b i x.f5 m = if rb = true then [⟨b.rule, (i : Int), (m : Int)⟩] else [] := by unfold rules_transitions.one; rw [hrb]; rfl
          have hlen2 : ((out ++ rules_all i (rules_transitions.at_ k b)) ++ rules_all m (rules_transitions.one k b i x.f5)).length ≤ 1000000 := by
            have h1 := HLE.out
            have h2 := rules_all_le (rules_transitions.one k b i x.f5) HM2.out
            rw [rules_all_succ, HAT.out] at h1
            simp only [List.length_append] at h1 ⊢
            omega
          generalize rd_T182 x.f5 (m : Int) = y at *
          have HRB := Aside0.mk hrb
          have HONE := Aside0.mk hone
          have HLEN := Aside0.mk hlen2
          clear hi1 hi2 hrb hone hlen2
          go_wp2_with (first
            | ((with_reducible refine gate_dst (N := 5) rfl ?_); refine box_event ?hg (N := 5) ?hd (cs := #[.string (⟨#[]⟩ : ByteArray), .slice none 0 0, .slice none 0 0, .string (⟨#[]⟩ : ByteArray)]) (t := 182) ?hr ?_; (case hd => rfl); (case hg => rfl); (case hr => first | (go_simp; done) | (go_simp; rfl)); intro g5 hg w5 hbox hb; have HGE5 := Aside0.mk (Nat.le_of_eq hg.symm); clear hg)
            | (refine rules_store (n := wr.heap.size) (W0 := wr) (vs := #[.string y.f0, .slice B1 y.f1.length d1, .slice B2 y.f2.length d2, .string y.f3]) rfl rfl (.tmp 5) (.tmp 24) rfl rfl rfl hbox (by kernel_rfl) rfl (by simp [Value.oneCell']) hb HGE5.out ?_; intro w6 hbox2 hb2; have HA6 := Aside0.mk (HAq.out.below hb2); have HF6 := Aside0.mk (HAq.out.fr hb2); have HB6 := Aside0.mk hb2; obtain ⟨hv0, hv1, hv2, hv3⟩ := cz4_ hbox2; clear hbox hb hbox2 hb2)
            | (go_at_call 155; refine (rules_bad.calls k w.heap.size n₀ B b _ _ y B1 d1 B2 d2 rb w6 HA6.out HVS.out.1 HVS.out.2 (Kd.C_below HE.out (below_step HBQ.out HB6.out)) hcE hE2 (Kd.C_below HI1.out (below_step HBQ.out HB6.out)) hd1 (Kd.C_below HI2.out (below_step HBQ.out HB6.out)) hd2 HRB.out).mono ?_; rintro e w7 ⟨rfl, hb7⟩; have HA7 := Aside0.mk (HA6.out.below hb7); have HF7 := Aside0.mk (HF6.out.trans (HA6.out.fr hb7)); clear hb7)
            | (go_at_call 150; refine (rules_bk.note w.heap.size n₀ B b _ _ rb (i : Int) (m : Int) w7 HA7.out HLEN.out).mono ?_; rintro e w8 ⟨⟨u, rfl⟩, ⟨vo3, hA3⟩, hF3⟩; have HA8 := Aside0.mk hA3; have HF8 := Aside0.mk hF3; clear hA3 hF3))
          go_roundg (x.f5.length - (m + 1))
          case measure => have := HK2.out; omega
          case rel => exact ⟨m + 1, vo3, ⟨rfl⟩, ⟨hm⟩, by go_num, ⟨by rw [rules_all_succ, HONE.out, ← List.append_assoc, rules_if]; exact HA8.out⟩, ⟨HFq.out.trans (HF7.out.trans HF8.out)⟩⟩
        · have hlt2 : decide ((m : Int) < (x.f5.length : Int)) = false := decide_eq_false (by omega)
          have hml : m = x.f5.length := by have := HM2.out; omega
          have HML := Aside0.mk hml
          clear hml
          go_wp2
          go_roundg (b.l3.length - (i + 1))
          case measure => have := HK.out; omega
          case rel => exact ⟨i + 1, vo2, ⟨rfl⟩, ⟨hi⟩, by go_num, ⟨by rw [rules_all_succ, HAT.out, ← List.append_assoc, ← HML.out]; exact HAq.out⟩, ⟨HFr.out.trans (HF2.out.trans HFq.out)⟩⟩
    · have hlt : decide ((i : Int) < (b.l3.length : Int)) = false := decide_eq_false (by omega)
      have hil : i = b.l3.length := by have := HI.out; omega
      have HIL := Aside0.mk hil
      clear hil
      go_wp2
      go_end0
      exact ⟨⟨_, rfl⟩, ⟨vo', by rw [HIL.out] at HAt; exact HAt.out⟩, HFr.out⟩


/-! ### rules_book_edges: function 123 -/
-- USES (*semblance/rules.book).ranges
-- USES (*semblance/rules.book).acts
-- USES (*semblance/rules.book).transitions
def rules_edge (k : Nat) (b : rules_bk.Bk) (l : List (S189)) : Option Bool := (rules_acts.f k b l).bind fun r => some (r || l.any fun x => x.f1)
def rules_edges.one (k : Nat) (b : rules_bk.Bk) (i : Nat) (x : S108) (j : Nat) : List (S64) := if (rules_edge k b (if j = 0 then x.f3 else x.f4)).getD false = true then [⟨b.rule, (i : Int), (j : Int)⟩] else []
def rules_edges.at_ (k : Nat) (b : rules_bk.Bk) (i : Nat) : List (S64) := rules_all 2 (rules_edges.one k b i (rd_T108 b.l3 (i : Int)))
def rules_edges.f (k : Nat) (b : rules_bk.Bk) : Option (List (S64)) := if ((List.range b.l3.length).all fun i => (rules_edge k b (rd_T108 b.l3 (i : Int)).f3).isSome && (rules_edge k b (rd_T108 b.l3 (i : Int)).f4).isSome) = true then some (rules_all b.l3.length (rules_edges.at_ k b)) else none
theorem rules_edges.parts {k : Nat} {b : rules_bk.Bk} {fl : List (S64)} (h : rules_edges.f k b = some fl) : (∀ i, i < b.l3.length → (∃ v, rules_edge k b (rd_T108 b.l3 (i : Int)).f3 = some v) ∧ ∃ v, rules_edge k b (rd_T108 b.l3 (i : Int)).f4 = some v) ∧ rules_all b.l3.length (rules_edges.at_ k b) = fl := by
  unfold rules_edges.f at h
  split at h
  case isFalse => cases h
  case isTrue hall =>
    refine ⟨fun i hi => ?_, Option.some.inj h⟩
    have h1 := List.all_eq_true.1 hall i (List.mem_range.2 hi)
    rw [Bool.and_eq_true] at h1
    exact ⟨Option.isSome_iff_exists.1 h1.1, Option.isSome_iff_exists.1 h1.2⟩
set_option maxHeartbeats 2000000 in
theorem rules_edges.lit (x : S189) (A2 : Option Addr) (c2 : Nat) (W : World) :
    Calls Try.prog 152 #[.agg #[.string x.f0, .bool x.f1, .slice A2 x.f2.length c2]] W fun e w' => e = .returned (.bool x.f1) ∧ Below W.heap.size W w' := by
  have hu := Try.underlying189
  go_enter Try.func152, Try.ntmps152
  go_wp2
  go_ret
  exact ⟨rfl, (Below.refl _ _).alloc (Nat.le_refl _) _⟩
theorem rules_edges.any (A0 : Option Addr) (c0 : Nat) (l0 : List (S189)) (W : World) (hr0 : Kd.C k189 W A0 l0.length l0) :
    Calls Try.prog 154 #[.slice A0 l0.length c0, .func (.func 152) #[] #[]] W fun e w' => e = .returned (.bool (l0.any fun x => x.f1)) ∧ Below W.heap.size W w' :=
  ContainsFunc_Act.calls (fun x => x.f1) 152 #[] (Go.Proofs.enters_of Try.func152 (by kernel_rfl) rfl) A0 c0 l0 W hr0 (fun W2 h2 x _ A2 c2 _ => (rules_edges.lit x A2 c2 W2).mono fun e w' ⟨he, hw⟩ => ⟨he, h2.trans (hw.mono h2.size)⟩)
set_option maxHeartbeats 16000000 in
set_option maxRecDepth 100000 in
theorem rules_edges.calls (k : Nat) (w : World) (n₀ B : Nat) (b : rules_bk.Bk) (out : List (S64)) (vo : Value) (W : World) (hA : rules_bk.At w.heap.size n₀ W B b out vo) (hW : Below w.heap.size w W) (hr3 : Kd.C k108 w b.A3 b.l3.length b.l3) (hc3 : b.l3.length ≤ b.c3) (hV : b.lV.length ≤ 100000) (hS : b.lS.length ≤ 100000) (fl : List (S64)) (h : rules_edges.f k b = some fl)
    (hlen : (out ++ fl).length ≤ 1000000) :
    Calls Try.prog 123 #[.pointer (some ⟨B, 0, none⟩)] W fun e W' => (∃ u, e = .returned u) ∧ (∃ vo', rules_bk.At w.heap.size n₀ W' B b (out ++ fl) vo') ∧ rules_bk.Fr w.heap.size n₀ B W W' := by
  obtain ⟨hok, rfl⟩ := rules_edges.parts h
  have hmax := Kd.C_max hr3
  have hu := Try.underlying159
  have hu2 := Try.underlying112
  have hu3 := Try.underlying108
  obtain ⟨hc0, hc1, hc2, hc3', hc4, hc5, hc6, hc7⟩ := hA.cells
  have HR := Aside0.mk hr3
  have HA := Aside0.mk hA
  have HW := Aside0.mk hW
  have HL := Aside0.mk hlen
  have HOK := Aside0.mk hok
  have HVS := Aside0.mk (And.intro hV hS)
  have HC3 := Aside0.mk hc3
  clear hV hS hc3 hr3 hA hW hlen hc0 hc1 hc2 hc4 hc5 hc6 hc7 hok h
  go_enter Try.func123, Try.ntmps123
  go_wp2_with fail
  clear hc3'
  generalize hAS : b.A3 = AS3 at *
  have HAS := Aside0.mk hAS
  clear hAS
  go_loopg [13] b.l3.length (fun kq v9 wr => ∃ (i : Nat) (vo' : Value), Aside0 (b.l3.length - i = kq) ∧ Aside0 (i ≤ b.l3.length) ∧ v9 = .int .i64 (i : Int) ∧ Aside0 (rules_bk.At w.heap.size n₀ wr B b (out ++ rules_all i (rules_edges.at_ k b)) vo') ∧ Aside0 (rules_bk.Fr w.heap.size n₀ B W wr))
  case atStart => exact ⟨0, vo, ⟨rfl⟩, ⟨Nat.zero_le _⟩, rfl, ⟨by simpa [rules_all] using HA.out⟩, ⟨rules_bk.Fr.refl _ _ _ _⟩⟩
  case round =>
    obtain ⟨i, vo', HK, HI, rfl, HAt, HFr⟩ := hrel
    by_cases hi : i < b.l3.length
    · have hlt : decide ((i : Int) < (b.l3.length : Int)) = true := decide_eq_true (by omega)
      obtain ⟨ad, A3, c3, A4, c4, A5, c5, e1, hx0, hx1, hx2, hx3, hx4, hx5, hl3, hi3, hl4, hi4, hl5, hi5⟩ := at_T108 HR.out (i : Int) (by omega) (by omega)
      subst e1
      rw [Int.toNat_natCast] at hx0 hx1 hx2 hx3 hx4 hx5
      have HBR := Aside0.mk (HW.out.trans HFr.out.bel)
      replace hx0 := pw_cell_below HBR.out hx0
      replace hx1 := pw_cell_below HBR.out hx1
      replace hx2 := pw_cell_below HBR.out hx2
      replace hx3 := pw_cell_below HBR.out hx3
      replace hx4 := pw_cell_below HBR.out hx4
      replace hx5 := pw_cell_below HBR.out hx5
      have hle : (out ++ rules_all (i + 1) (rules_edges.at_ k b)).length ≤ 1000000 := by
        have h1 := HL.out
        have h2 := rules_all_le (rules_edges.at_ k b) (show i + 1 ≤ b.l3.length by omega)
        rw [List.length_append] at h1 ⊢
        omega
      have HLE := Aside0.mk hle
      have HI3 := Aside0.mk hi3
      have HI4 := Aside0.mk hi4
      have HI5 := Aside0.mk hi5
      have hok := HOK.out i hi
      clear hle hi3 hi4 hi5
      have hat : rules_edges.at_ k b i = rules_all 2 (rules_edges.one k b i (rd_T108 b.l3 (i : Int))) := rfl
      generalize rd_T108 b.l3 (i : Int) = x at *
      have HOK2 := Aside0.mk hok
      have HAT := Aside0.mk hat
      clear hok hat
      go_wp2_with (first
          | ((with_reducible refine gate_dst (N := 4) rfl ?_); refine box_event ?hg (N := 4) ?hd (cs := #[.string (⟨#[]⟩ : ByteArray), .int .i64 0, .int .i64 0, .slice none 0 0, .slice none 0 0, .slice none 0 0]) (t := 108) ?hr ?_; (case hd => rfl); (case hg => rfl); (case hr => first | (go_simp; done) | (go_simp; rfl)); intro g hg w1 hbox hb; have HGE := Aside0.mk (Nat.le_of_eq hg.symm); clear hg)
          | (refine rules_store (n := wr.heap.size) (W0 := wr) (vs := #[.string x.f0, .int .i64 x.f1, .int .i64 x.f2, .slice A3 x.f3.length c3, .slice A4 x.f4.length c4, .slice A5 x.f5.length c5]) rfl rfl (.tmp 4) (.tmp 17) rfl rfl rfl hbox (by kernel_rfl) rfl (by simp [Value.oneCell']) hb HGE.out ?_; intro w2 hbox2 hb2; have HA2 := Aside0.mk (HAt.out.below hb2); have HF2 := Aside0.mk (HAt.out.fr hb2); have HB2 := Aside0.mk hb2; obtain ⟨hz0, hz1, hz2, hz3, hz4, hz5⟩ := cz6_ hbox2; clear hbox hb hbox2 hb2))
      have hkG := heap_alloc_new w2 (.cells #[.slice A3 x.f3.length c3, .slice A4 x.f4.length c4] 105)
      have hbG : Below w2.heap.size w2 (w2.alloc (.cells #[.slice A3 x.f3.length c3, .slice A4 x.f4.length c4] 105)) := (Below.refl _ _).alloc (Nat.le_refl _) _
      have HAG := Aside0.mk (HA2.out.below hbG)
      have HFG := Aside0.mk (HF2.out.trans (HA2.out.fr hbG))
      have HNE := Aside0.mk (show w2.heap.size ≠ B by have := HA2.out.hi; have := HA2.out.size; omega)
      have HKG := Aside0.mk hkG
      clear hkG hbG
      generalize w2.heap.size = G at *
      generalize w2.alloc (.cells #[.slice A3 x.f3.length c3, .slice A4 x.f4.length c4] 105) = wG at *
      go_loopg [24] 2 (fun kq2 v20 wq => ∃ (m : Nat) (vo2 : Value), Aside0 (2 - m = kq2) ∧ Aside0 (m ≤ 2) ∧ v20 = .int .i64 (m : Int) ∧ Aside0 (rules_bk.At w.heap.size n₀ wq B b ((out ++ rules_all i (rules_edges.at_ k b)) ++ rules_all m (rules_edges.one k b i x)) vo2) ∧ Aside0 (rules_bk.Fr w.heap.size n₀ B wG wq))
      case atStart => exact ⟨0, vo', ⟨rfl⟩, ⟨Nat.zero_le _⟩, rfl, ⟨by simpa [rules_all] using HAG.out⟩, ⟨rules_bk.Fr.refl _ _ _ _⟩⟩
      case round =>
        obtain ⟨m, vo2, HK2, HM2, rfl, HAq, HFq⟩ := hrel
        by_cases hm : m < 2
        · have hlt2 : decide ((m : Int) < 2) = true := decide_eq_true (by omega)
          have HBQ := Aside0.mk (HBR.out.trans (HFG.out.bel.trans HFq.out.bel))
          have hlen2 : ((out ++ rules_all i (rules_edges.at_ k b)) ++ rules_all m (rules_edges.one k b i x)).length ≤ 1000000 := by
            have h1 := HLE.out
            have h2 := rules_all_le (rules_edges.one k b i x) HM2.out
            rw [rules_all_succ, HAT.out] at h1
            simp only [List.length_append] at h1 ⊢
            omega
          have HLEN := Aside0.mk hlen2
          have hkq := HFq.out.kind G _ _ _ HNE.out (by decide) HKG.out
          obtain ⟨l, Al, cl, rl, hcl, HIl, hrl, hone⟩ : ∃ (l : List (S189)) (Al : Option Addr) (cl : Nat) (rl : Bool), wr.cell? ⟨G, m, none⟩ = some (.slice Al l.length cl) ∧ Aside0 (Kd.C k189 w Al l.length l) ∧ rules_edge k b l = some rl ∧ rules_edges.one k b i x m = if rl = true then [⟨b.rule, (i : Int), (m : Int)⟩] else [] := by
            have hm2 : m = 0 ∨ m = 1 := by omega
            rcases hm2 with rfl | rfl
            · obtain ⟨v, hv⟩ := HOK2.out.1
              exact ⟨x.f3, A3, c3, v, (blk_cell hkq 0).trans rfl, HI3, hv, by unfold rules_edges.one; rw [show (if (0 : Nat) = 0 then x.f3 else x.f4) = x.f3 from rfl, hv]; rfl⟩
            · obtain ⟨v, hv⟩ := HOK2.out.2
              exact ⟨x.f4, A4, c4, v, (blk_cell hkq 1).trans rfl, HI4, hv, by unfold rules_edges.one; rw [show (if (1 : Nat) = 0 then x.f3 else x.f4) = x.f4 from rfl, hv]; rfl⟩
          have HONE := Aside0.mk hone
          unfold rules_edge at hrl
          obtain ⟨ra, hra, hrl⟩ := Option.bind_eq_some_iff.mp hrl
          have HRA := Aside0.mk hra
          have HRL := Aside0.mk (Option.some.inj hrl)
          clear hlen2 hkq hone hrl hra
          generalize hqq : (l.any fun x => x.f1) = q at *
          have HQ := Aside0.mk hqq
          clear hqq
          cases ra <;>
           (go_wp2_with (first
            | (go_at_call 153; refine (rules_acts.calls k w.heap.size n₀ B b _ _ Al cl l _ wr HAq.out HVS.out.1 HVS.out.2 (Kd.C_below HIl.out HBQ.out) HRA.out).mono ?_; rintro e w6 ⟨rfl, hb6⟩; have HA6 := Aside0.mk (HAq.out.below hb6); have HF6 := Aside0.mk (HAq.out.fr hb6); have HB6 := Aside0.mk hb6; clear hb6)
            | (go_at_call 154; refine (rules_edges.any Al cl l w6 (Kd.C_below HIl.out (below_step HBQ.out HB6.out))).mono ?_; rw [HQ.out]; rintro e w7 ⟨rfl, hb7⟩; have HA7 := Aside0.mk (HA6.out.below hb7); have HF7 := Aside0.mk (HF6.out.trans (HA6.out.fr hb7)); clear hb7)
            | (go_at_call 150; (first | refine (rules_bk.note w.heap.size n₀ B b _ _ q (i : Int) (m : Int) w7 HA7.out HLEN.out).mono ?_ | refine (rules_bk.note w.heap.size n₀ B b _ _ true (i : Int) (m : Int) w6 HA6.out HLEN.out).mono ?_); rintro e w8 ⟨⟨u, rfl⟩, ⟨vo3, hA3⟩, hF3⟩; have HA8 := Aside0.mk hA3; have HF8 := Aside0.mk hF3; clear hA3 hF3))
            go_roundg (2 - (m + 1))
            case measure => have := HK2.out; omega
            case rel => exact ⟨m + 1, vo3, ⟨rfl⟩, ⟨hm⟩, by go_num, ⟨by rw [rules_all_succ, HONE.out, ← List.append_assoc, rules_if, ← HRL.out]; simpa using HA8.out⟩, ⟨HFq.out.trans (by first | exact HF7.out.trans HF8.out | exact HF6.out.trans HF8.out)⟩⟩)
        · have hlt2 : decide ((m : Int) < 2) = false := decide_eq_false (by omega)
          have hml : m = 2 := by have := HM2.out; omega
          have HML := Aside0.mk hml
          clear hml
          go_wp2
          go_roundg (b.l3.length - (i + 1))
          case measure => have := HK.out; omega
          case rel => exact ⟨i + 1, vo2, ⟨rfl⟩, ⟨hi⟩, by go_num, ⟨by rw [rules_all_succ, HAT.out, ← List.append_assoc, ← HML.out]; exact HAq.out⟩, ⟨HFr.out.trans (HFG.out.trans HFq.out)⟩⟩
    · have hlt : decide ((i : Int) < (b.l3.length : Int)) = false := decide_eq_false (by omega)
      have hil : i = b.l3.length := by have := HI.out; omega
      have HIL := Aside0.mk hil
      clear hil
      go_wp2
      go_end0
      exact ⟨⟨_, rfl⟩, ⟨vo', by rw [HIL.out] at HAt; exact HAt.out⟩, HFr.out⟩


/-! ### rules_Broken: function 95 -/
-- USES semblance/rules.open
-- USES (*semblance/rules.book).twins
-- USES (*semblance/rules.book).ranges
-- USES (*semblance/rules.book).kids
-- USES (*semblance/rules.book).edges
-- USES (*semblance/rules.book).transitions
/-- a book without places -/
def rules_bk0 (a0 : ByteArray) (l1 : List ByteArray) (l2 : List (S152)) (l3 : List (S108)) (rule : Int) : rules_bk.Bk := ⟨a0, none, 0, l1, none, 0, l2, none, 0, l3, none, 0, l2.map (fun x => x.f0), none, 0, l3.map (fun x => x.f0), rule⟩
def rules_twins.of (rule : Int) (l : List ByteArray) : Option (List (S64)) := (names_Twins.f l).map fun ts => rules_all ts.length (fun j => [⟨rule, rd ts (j : Int), 0⟩])
def rules_Broken.g (k : Nat) (a0 : ByteArray) (l1 : List ByteArray) (l2 : List (S152)) (l3 : List (S108)) (a1 : Int) : Option (List (S64)) :=
  if a1 = 1 then rules_twins.of a1 l1 else if a1 = 2 then rules_twins.of a1 (l2.map (fun x => x.f0)) else if a1 = 3 then some (rules_all l2.length (rules_ranges.at_ (rules_bk0 a0 l1 l2 l3 a1)))
  else if a1 = 4 then rules_twins.of a1 (l3.map (fun x => x.f0)) else if a1 = 5 then rules_kids.f k (rules_bk0 a0 l1 l2 l3 a1) else if a1 = 10 then rules_edges.f k (rules_bk0 a0 l1 l2 l3 a1) else rules_transitions.f k (rules_bk0 a0 l1 l2 l3 a1)
def rules_Broken.f (k : Nat) (a0 : ByteArray) (l1 : List ByteArray) (l2 : List (S152)) (l3 : List (S108)) (a1 : Int) : Option (List (S64)) :=
  if l1.length ≤ 100000 ∧ l2.length ≤ 100000 ∧ l3.length ≤ 100000 then (rules_Broken.g k a0 l1 l2 l3 a1).bind fun fl => if fl.length ≤ 1000000 then some fl else none else none
theorem rules_kids.mono : ∀ b k, LeO (rules_kids.f k b) (rules_kids.f (k + 1) b) := by
  intro b k r h
  obtain ⟨h1, h2⟩ := rules_kids.parts h
  have h3 : ∀ i, i < b.l3.length → shape_Kids.f (k + 1) b.l3 (i : Int) = shape_Kids.f k b.l3 (i : Int) := fun i hi => by
    obtain ⟨v, hv⟩ := h1 i hi
    rw [hv]
    exact shape_Kids.mono _ _ k v hv
  unfold rules_kids.f
  rw [if_pos (List.all_eq_true.2 fun i hi => by rw [h3 i (List.mem_range.1 hi)]; obtain ⟨v, hv⟩ := h1 i (List.mem_range.1 hi); rw [hv]; rfl), ← h2]
  congr 1
  exact rules_all_congr (fun i hi => by unfold rules_kids.at_; rw [h3 i hi])
instance rules_kids.lc : ∀ b k, LeC (rules_kids.f k b) (rules_kids.f (k + 1) b) := fun b k => ⟨rules_kids.mono b k⟩
theorem rules_edges.mono : ∀ b k, LeO (rules_edges.f k b) (rules_edges.f (k + 1) b) := by
  intro b k r h
  obtain ⟨h1, h2⟩ := rules_edges.parts h
  have he : ∀ l, LeO (rules_edge k b l) (rules_edge (k + 1) b l) := fun l => LeO.bind (rules_acts.mono b l k) (fun _ => LeO.refl _)
  have h3 : ∀ i, i < b.l3.length → rules_edge (k + 1) b (rd_T108 b.l3 (i : Int)).f3 = rules_edge k b (rd_T108 b.l3 (i : Int)).f3 ∧ rules_edge (k + 1) b (rd_T108 b.l3 (i : Int)).f4 = rules_edge k b (rd_T108 b.l3 (i : Int)).f4 := fun i hi => by
    obtain ⟨⟨v, hv⟩, ⟨u, hu⟩⟩ := h1 i hi
    rw [hv, hu]
    exact ⟨he _ v hv, he _ u hu⟩
  unfold rules_edges.f
  rw [if_pos (List.all_eq_true.2 fun i hi => by
    obtain ⟨⟨v, hv⟩, ⟨u, hu⟩⟩ := h1 i (List.mem_range.1 hi)
    rw [(h3 i (List.mem_range.1 hi)).1, (h3 i (List.mem_range.1 hi)).2, hv, hu]
    rfl), ← h2]
  congr 1
  exact rules_all_congr (fun i hi => rules_all_congr (fun j hj => by
    unfold rules_edges.one
    by_cases hz : j = 0
    · simp only [hz, if_true]; rw [(h3 i hi).1]
    · simp only [hz, if_false]; rw [(h3 i hi).2]))
instance rules_edges.lc : ∀ b k, LeC (rules_edges.f k b) (rules_edges.f (k + 1) b) := fun b k => ⟨rules_edges.mono b k⟩
theorem rules_transitions.mono : ∀ b k, LeO (rules_transitions.f k b) (rules_transitions.f (k + 1) b) := by
  intro b k r h
  obtain ⟨h1, h2⟩ := rules_transitions.parts h
  have h3 : ∀ i, i < b.l3.length → ∀ m, m < (rd_T108 b.l3 (i : Int)).f5.length → rules_bad.f (k + 1) b (rd_T182 (rd_T108 b.l3 (i : Int)).f5 (m : Int)) = rules_bad.f k b (rd_T182 (rd_T108 b.l3 (i : Int)).f5 (m : Int)) := fun i hi m hm => by
    obtain ⟨v, hv⟩ := h1 i hi m hm
    rw [hv]
    exact rules_bad.mono _ _ k v hv
  unfold rules_transitions.f
  rw [if_pos (List.all_eq_true.2 fun i hi => List.all_eq_true.2 fun m hm => by
    rw [h3 i (List.mem_range.1 hi) m (List.mem_range.1 hm)]
    obtain ⟨v, hv⟩ := h1 i (List.mem_range.1 hi) m (List.mem_range.1 hm)
    rw [hv]
    rfl), ← h2]
  congr 1
  exact rules_all_congr (fun i hi => rules_all_congr (fun m hm => by unfold rules_transitions.one; rw [h3 i hi m hm]))
instance rules_transitions.lc : ∀ b k, LeC (rules_transitions.f k b) (rules_transitions.f (k + 1) b) := fun b k => ⟨rules_transitions.mono b k⟩
theorem rules_Broken.mono : ∀ a0 l1 l2 l3 a1 k, LeO (rules_Broken.f k a0 l1 l2 l3 a1) (rules_Broken.f (k + 1) a0 l1 l2 l3 a1) := by
  intro a0 l1 l2 l3 a1 k
  unfold rules_Broken.f rules_Broken.g
  exact LeO.ite (LeO.bind (LeO.ite (LeO.refl _) (LeO.ite (LeO.refl _) (LeO.ite (LeO.refl _) (LeO.ite (LeO.refl _) (LeO.ite (rules_kids.mono _ k) (LeO.ite (rules_edges.mono _ k) (rules_transitions.mono _ k))))))) (fun _ => LeO.refl _)) (LeO.refl _)
instance rules_Broken.lc : ∀ a0 l1 l2 l3 a1 k, LeC (rules_Broken.f k a0 l1 l2 l3 a1) (rules_Broken.f (k + 1) a0 l1 l2 l3 a1) := fun a0 l1 l2 l3 a1 k => ⟨rules_Broken.mono a0 l1 l2 l3 a1 k⟩
set_option maxHeartbeats 8000000 in
set_option maxRecDepth 100000 in
theorem rules_Broken.calls (k : Nat) (a0_0 : ByteArray) (A0_1 : Option Addr) (c0_1 : Nat) (l0_1 : List ByteArray) (A0_2 : Option Addr) (c0_2 : Nat) (l0_2 : List (S152)) (A0_3 : Option Addr) (c0_3 : Nat) (l0_3 : List (S108)) (a1 : Int) (r : List (S64)) (w : World) (hr0_1 : Kd.C Kd.string w A0_1 l0_1.length l0_1) (hc0_1 : l0_1.length ≤ c0_1) (hr0_2 : Kd.C k152 w A0_2 l0_2.length l0_2) (hc0_2 : l0_2.length ≤ c0_2) (hr0_3 : Kd.C k108 w A0_3 l0_3.length l0_3) (hc0_3 : l0_3.length ≤ c0_3) (h : rules_Broken.f k a0_0 l0_1 l0_2 l0_3 a1 = some r) :
    Calls Try.prog 95 #[.agg #[.string a0_0, .slice A0_1 l0_1.length c0_1, .slice A0_2 l0_2.length c0_2, .slice A0_3 l0_3.length c0_3], .int .i64 a1] w fun e w' => ∃ v0_ : Value, e = .returned v0_ ∧ Kd.R k64 64 w' w.heap.size (fun _ => True) v0_ r ∧ Below w.heap.size w w' := by
  unfold rules_Broken.f at h
  split at h
  case isFalse => cases h
  case isTrue hg =>
  obtain ⟨fl, hfl, h⟩ := Option.bind_eq_some_iff.mp h
  split at h
  case isFalse => cases h
  case isTrue hlen =>
  obtain rfl := Option.some.inj h
  obtain ⟨w1, hw1⟩ : ∃ w1, w1 = w.alloc (.cells #[.string a0_0, .slice A0_1 l0_1.length c0_1, .slice A0_2 l0_2.length c0_2, .slice A0_3 l0_3.length c0_3] 112) := ⟨_, rfl⟩
  have hb1 : Below w.heap.size w w1 := by rw [hw1]; exact (Below.refl _ _).alloc (Nat.le_refl _) _
  have HK : Aside0 (w1.heap[w.heap.size]? = some (.cells #[.string a0_0, .slice A0_1 l0_1.length c0_1, .slice A0_2 l0_2.length c0_2, .slice A0_3 l0_3.length c0_3] 112 (0, 0))) := ⟨by rw [hw1]; exact heap_alloc_new w _⟩
  have HR1 := Aside0.mk (Kd.C_below hr0_1 hb1)
  have HR2 := Aside0.mk (Kd.C_below hr0_2 hb1)
  have HR3 := Aside0.mk (Kd.C_below hr0_3 hb1)
  have HC := Aside0.mk (And.intro hc0_1 hc0_3)
  have HB1 := Aside0.mk hb1
  have HG := Aside0.mk hg
  have hu := Try.underlying159
  have hu2 := Try.underlying112
  clear h hr0_1 hr0_2 hr0_3 hb1 hc0_1 hc0_2 hc0_3 hg
  unfold rules_Broken.g at hfl
  obtain ⟨lv, hlv⟩ : ∃ lv, l0_2.map (fun x => x.f0) = lv := ⟨_, rfl⟩
  obtain ⟨ls, hls⟩ : ∃ ls, l0_3.map (fun x => x.f0) = ls := ⟨_, rfl⟩
  have HLV := Aside0.mk (And.intro hlv hls)
  have HLL := Aside0.mk (show lv.length ≤ 100000 ∧ ls.length ≤ 100000 by rw [← hlv, ← hls, List.length_map, List.length_map]; exact HG.out.2)
  rw [hlv, hls] at hfl
  clear hlv hls
  by_cases d1 : a1 = 1
  · rw [if_pos d1] at hfl
    have d1b : (a1 == 1) = true := beq_iff_eq.mpr d1
    clear d1
    unfold rules_twins.of at hfl
    obtain ⟨ts, hts, rfl⟩ := Option.map_eq_some_iff.mp hfl
    have HT := Aside0.mk hts
    have HLN := Aside0.mk hlen
    clear hts hfl hlen
    subst hw1
    go_enter Try.func95, Try.ntmps95
    go_wp2_with (first | (go_at_call 119; refine (rules_open.calls a0_0 A0_1 c0_1 l0_1 A0_2 c0_2 l0_2 A0_3 c0_3 l0_3 a1 _ HR2.out HR3.out HG.out.2.1 HG.out.2.2).mono ?_; rintro e W ⟨B, AV, cV, AS, cS, rfl, hA, hb⟩; rw [HLV.out.1, HLV.out.2] at hA; have HA := Aside0.mk hA; have HB := Aside0.mk hb; obtain ⟨hd0, hd1, hd2, hd3⟩ := cz4_ (blk_below HK.out hb); have hcc := hA.cells; obtain ⟨hy0, hy1, hy2, hy3, hy4, hy5, hy6, hy7⟩ := hcc; clear hA hb) | (go_at_call 120; refine (rules_twins.calls _ W.heap.size B _ [] _ A0_1 c0_1 (l0_1) ts W HA.out (Kd.C_below HR1.out HB.out) HC.out.1 HT.out HLN.out).mono ?_; rintro e W2 ⟨⟨u, rfl⟩, ⟨vo, hA2⟩, hF⟩; have HA2 := Aside0.mk hA2; have HF := Aside0.mk hF; have hv7 := hA2.cells.2.2.2.2.2.2.2; obtain ⟨A9, c9, rfl⟩ := Kd.R_slice hA2.row; clear hA2 hF))
    go_ret
    exact ⟨_, rfl, Kd.R_mono (Kd.R_lower HA2.out.row (Nat.le_trans HB1.out.size HB.out.size)) (fun _ _ => trivial), HB1.out.trans ((HB.out.trans HF.out.bel).mono HB1.out.size)⟩
  rw [if_neg d1] at hfl
  have d1b : (a1 == 1) = false := beq_eq_false_iff_ne.mpr d1
  clear d1
  by_cases d2 : a1 = 2
  · rw [if_pos d2] at hfl
    have d2b : (a1 == 2) = true := beq_iff_eq.mpr d2
    clear d2
    unfold rules_twins.of at hfl
    obtain ⟨ts, hts, rfl⟩ := Option.map_eq_some_iff.mp hfl
    have HT := Aside0.mk hts
    have HLN := Aside0.mk hlen
    clear hts hfl hlen
    subst hw1
    go_enter Try.func95, Try.ntmps95
    go_wp2_with (first | (go_at_call 119; refine (rules_open.calls a0_0 A0_1 c0_1 l0_1 A0_2 c0_2 l0_2 A0_3 c0_3 l0_3 a1 _ HR2.out HR3.out HG.out.2.1 HG.out.2.2).mono ?_; rintro e W ⟨B, AV, cV, AS, cS, rfl, hA, hb⟩; rw [HLV.out.1, HLV.out.2] at hA; have HA := Aside0.mk hA; have HB := Aside0.mk hb; obtain ⟨hd0, hd1, hd2, hd3⟩ := cz4_ (blk_below HK.out hb); have hcc := hA.cells; obtain ⟨hy0, hy1, hy2, hy3, hy4, hy5, hy6, hy7⟩ := hcc; clear hA hb) | (go_at_call 120; refine (rules_twins.calls _ W.heap.size B _ [] _ AV cV (lv) ts W HA.out (Kd.R_reads' HA.out.vars).2.2 (Kd.R_reads' HA.out.vars).2.1 HT.out HLN.out).mono ?_; rintro e W2 ⟨⟨u, rfl⟩, ⟨vo, hA2⟩, hF⟩; have HA2 := Aside0.mk hA2; have HF := Aside0.mk hF; have hv7 := hA2.cells.2.2.2.2.2.2.2; obtain ⟨A9, c9, rfl⟩ := Kd.R_slice hA2.row; clear hA2 hF))
    go_ret
    exact ⟨_, rfl, Kd.R_mono (Kd.R_lower HA2.out.row (Nat.le_trans HB1.out.size HB.out.size)) (fun _ _ => trivial), HB1.out.trans ((HB.out.trans HF.out.bel).mono HB1.out.size)⟩
  rw [if_neg d2] at hfl
  have d2b : (a1 == 2) = false := beq_eq_false_iff_ne.mpr d2
  clear d2
  by_cases d3 : a1 = 3
  · rw [if_pos d3] at hfl
    have d3b : (a1 == 3) = true := beq_iff_eq.mpr d3
    clear d3
    obtain rfl := Option.some.inj hfl
    have HLN := Aside0.mk hlen
    clear hfl hlen
    subst hw1
    go_enter Try.func95, Try.ntmps95
    go_wp2_with (first | (go_at_call 119; refine (rules_open.calls a0_0 A0_1 c0_1 l0_1 A0_2 c0_2 l0_2 A0_3 c0_3 l0_3 a1 _ HR2.out HR3.out HG.out.2.1 HG.out.2.2).mono ?_; rintro e W ⟨B, AV, cV, AS, cS, rfl, hA, hb⟩; rw [HLV.out.1, HLV.out.2] at hA; have HA := Aside0.mk hA; have HB := Aside0.mk hb; obtain ⟨hd0, hd1, hd2, hd3⟩ := cz4_ (blk_below HK.out hb); have hcc := hA.cells; obtain ⟨hy0, hy1, hy2, hy3, hy4, hy5, hy6, hy7⟩ := hcc; clear hA hb) | (go_at_call 121; refine (rules_ranges.calls _ W.heap.size B _ [] _ W HA.out HB.out HR2.out HLN.out).mono ?_; rintro e W2 ⟨⟨u, rfl⟩, ⟨vo, hA2⟩, hF⟩; have HA2 := Aside0.mk hA2; have HF := Aside0.mk hF; have hv7 := hA2.cells.2.2.2.2.2.2.2; obtain ⟨A9, c9, rfl⟩ := Kd.R_slice hA2.row; clear hA2 hF))
    go_ret
    exact ⟨_, rfl, Kd.R_mono (Kd.R_lower HA2.out.row (Nat.le_trans HB1.out.size HB.out.size)) (fun _ _ => trivial), HB1.out.trans ((HB.out.trans HF.out.bel).mono HB1.out.size)⟩
  rw [if_neg d3] at hfl
  have d3b : (a1 == 3) = false := beq_eq_false_iff_ne.mpr d3
  clear d3
  by_cases d4 : a1 = 4
  · rw [if_pos d4] at hfl
    have d4b : (a1 == 4) = true := beq_iff_eq.mpr d4
    clear d4
    unfold rules_twins.of at hfl
    obtain ⟨ts, hts, rfl⟩ := Option.map_eq_some_iff.mp hfl
    have HT := Aside0.mk hts
    have HLN := Aside0.mk hlen
    clear hts hfl hlen
    subst hw1
    go_enter Try.func95, Try.ntmps95
    go_wp2_with (first | (go_at_call 119; refine (rules_open.calls a0_0 A0_1 c0_1 l0_1 A0_2 c0_2 l0_2 A0_3 c0_3 l0_3 a1 _ HR2.out HR3.out HG.out.2.1 HG.out.2.2).mono ?_; rintro e W ⟨B, AV, cV, AS, cS, rfl, hA, hb⟩; rw [HLV.out.1, HLV.out.2] at hA; have HA := Aside0.mk hA; have HB := Aside0.mk hb; obtain ⟨hd0, hd1, hd2, hd3⟩ := cz4_ (blk_below HK.out hb); have hcc := hA.cells; obtain ⟨hy0, hy1, hy2, hy3, hy4, hy5, hy6, hy7⟩ := hcc; clear hA hb) | (go_at_call 120; refine (rules_twins.calls _ W.heap.size B _ [] _ AS cS (ls) ts W HA.out (Kd.R_reads' HA.out.states).2.2 (Kd.R_reads' HA.out.states).2.1 HT.out HLN.out).mono ?_; rintro e W2 ⟨⟨u, rfl⟩, ⟨vo, hA2⟩, hF⟩; have HA2 := Aside0.mk hA2; have HF := Aside0.mk hF; have hv7 := hA2.cells.2.2.2.2.2.2.2; obtain ⟨A9, c9, rfl⟩ := Kd.R_slice hA2.row; clear hA2 hF))
    go_ret
    exact ⟨_, rfl, Kd.R_mono (Kd.R_lower HA2.out.row (Nat.le_trans HB1.out.size HB.out.size)) (fun _ _ => trivial), HB1.out.trans ((HB.out.trans HF.out.bel).mono HB1.out.size)⟩
  rw [if_neg d4] at hfl
  have d4b : (a1 == 4) = false := beq_eq_false_iff_ne.mpr d4
  clear d4
  have HLN := Aside0.mk hlen
  clear hlen
  by_cases d5 : a1 = 5
  · rw [if_pos d5] at hfl
    have d5b : (a1 == 5) = true := beq_iff_eq.mpr d5
    have HFL := Aside0.mk hfl
    clear d5 hfl
    subst hw1
    go_enter Try.func95, Try.ntmps95
    go_wp2_with (first | (go_at_call 119; refine (rules_open.calls a0_0 A0_1 c0_1 l0_1 A0_2 c0_2 l0_2 A0_3 c0_3 l0_3 a1 _ HR2.out HR3.out HG.out.2.1 HG.out.2.2).mono ?_; rintro e W ⟨B, AV, cV, AS, cS, rfl, hA, hb⟩; rw [HLV.out.1, HLV.out.2] at hA; have HA := Aside0.mk hA; have HB := Aside0.mk hb; obtain ⟨hd0, hd1, hd2, hd3⟩ := cz4_ (blk_below HK.out hb); have hcc := hA.cells; obtain ⟨hy0, hy1, hy2, hy3, hy4, hy5, hy6, hy7⟩ := hcc; clear hA hb) | (go_at_call 122; refine (rules_kids.calls k _ W.heap.size B _ [] _ W HA.out HB.out HR3.out HC.out.2 fl HFL.out HLN.out).mono ?_; rintro e W2 ⟨⟨u, rfl⟩, ⟨vo, hA2⟩, hF⟩; have HA2 := Aside0.mk hA2; have HF := Aside0.mk hF; have hv7 := hA2.cells.2.2.2.2.2.2.2; obtain ⟨A9, c9, rfl⟩ := Kd.R_slice hA2.row; clear hA2 hF))
    go_ret
    exact ⟨_, rfl, Kd.R_mono (Kd.R_lower HA2.out.row (Nat.le_trans HB1.out.size HB.out.size)) (fun _ _ => trivial), HB1.out.trans ((HB.out.trans HF.out.bel).mono HB1.out.size)⟩
  rw [if_neg d5] at hfl
  have d5b : (a1 == 5) = false := beq_eq_false_iff_ne.mpr d5
  clear d5
  by_cases d10 : a1 = 10
  · rw [if_pos d10, rules_bk0, HLV.out.1, HLV.out.2] at hfl
    have d10b : (a1 == 10) = true := beq_iff_eq.mpr d10
    have HFL := Aside0.mk hfl
    clear d10 hfl
    subst hw1
    go_enter Try.func95, Try.ntmps95
    go_wp2_with (first | (go_at_call 119; refine (rules_open.calls a0_0 A0_1 c0_1 l0_1 A0_2 c0_2 l0_2 A0_3 c0_3 l0_3 a1 _ HR2.out HR3.out HG.out.2.1 HG.out.2.2).mono ?_; rintro e W ⟨B, AV, cV, AS, cS, rfl, hA, hb⟩; rw [HLV.out.1, HLV.out.2] at hA; have HA := Aside0.mk hA; have HB := Aside0.mk hb; obtain ⟨hd0, hd1, hd2, hd3⟩ := cz4_ (blk_below HK.out hb); have hcc := hA.cells; obtain ⟨hy0, hy1, hy2, hy3, hy4, hy5, hy6, hy7⟩ := hcc; clear hA hb) | (go_at_call 123; refine (rules_edges.calls k _ W.heap.size B _ [] _ W HA.out HB.out HR3.out HC.out.2 HLL.out.1 HLL.out.2 fl HFL.out HLN.out).mono ?_; rintro e W2 ⟨⟨u, rfl⟩, ⟨vo, hA2⟩, hF⟩; have HA2 := Aside0.mk hA2; have HF := Aside0.mk hF; have hv7 := hA2.cells.2.2.2.2.2.2.2; obtain ⟨A9, c9, rfl⟩ := Kd.R_slice hA2.row; clear hA2 hF))
    go_ret
    exact ⟨_, rfl, Kd.R_mono (Kd.R_lower HA2.out.row (Nat.le_trans HB1.out.size HB.out.size)) (fun _ _ => trivial), HB1.out.trans ((HB.out.trans HF.out.bel).mono HB1.out.size)⟩
  · rw [if_neg d10, rules_bk0, HLV.out.1, HLV.out.2] at hfl
    have d10b : (a1 == 10) = false := beq_eq_false_iff_ne.mpr d10
    have HFL := Aside0.mk hfl
    clear d10 hfl
    subst hw1
    go_enter Try.func95, Try.ntmps95
    go_wp2_with (first | (go_at_call 119; refine (rules_open.calls a0_0 A0_1 c0_1 l0_1 A0_2 c0_2 l0_2 A0_3 c0_3 l0_3 a1 _ HR2.out HR3.out HG.out.2.1 HG.out.2.2).mono ?_; rintro e W ⟨B, AV, cV, AS, cS, rfl, hA, hb⟩; rw [HLV.out.1, HLV.out.2] at hA; have HA := Aside0.mk hA; have HB := Aside0.mk hb; obtain ⟨hd0, hd1, hd2, hd3⟩ := cz4_ (blk_below HK.out hb); have hcc := hA.cells; obtain ⟨hy0, hy1, hy2, hy3, hy4, hy5, hy6, hy7⟩ := hcc; clear hA hb) | (go_at_call 124; refine (rules_transitions.calls k _ W.heap.size B _ [] _ W HA.out HB.out HR3.out HC.out.2 HLL.out.1 HLL.out.2 HR1.out HC.out.1 HG.out.1 fl HFL.out HLN.out).mono ?_; rintro e W2 ⟨⟨u, rfl⟩, ⟨vo, hA2⟩, hF⟩; have HA2 := Aside0.mk hA2; have HF := Aside0.mk hF; have hv7 := hA2.cells.2.2.2.2.2.2.2; obtain ⟨A9, c9, rfl⟩ := Kd.R_slice hA2.row; clear hA2 hF))
    go_ret
    exact ⟨_, rfl, Kd.R_mono (Kd.R_lower HA2.out.row (Nat.le_trans HB1.out.size HB.out.size)) (fun _ _ => trivial), HB1.out.trans ((HB.out.trans HF.out.bel).mono HB1.out.size)⟩


end Go.Proofs.Ytbkaiojofgmbnaa.XL
