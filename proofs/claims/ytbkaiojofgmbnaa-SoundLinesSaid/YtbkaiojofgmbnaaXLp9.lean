-- written by wip/xprint.py out of the translation
import Derived.Test.YtbkaiojofgmbnaaXShort
import Derived.Test.YtbkaiojofgmbnaaXLp0
import Derived.Test.YtbkaiojofgmbnaaXLp2
import Derived.Test.YtbkaiojofgmbnaaXLp8
namespace Go.Proofs.Ytbkaiojofgmbnaa.XL
open Go.Proofs.Ytbkaiojofgmbnaa.XShort Go.Proofs.Ytbkaiojofgmbnaa.XReg Go.Proofs.Ytbkaiojofgmbnaa.XGrow Go.RowKit Go.Proofs.YtbkaiojofgmbnaaW.PrintWords Go.Proofs.YtbkaiojofgmbnaaW.PrintLast Go.Proofs.YtbkaiojofgmbnaaW.PrintMore
attribute [local go_sem] max2_int min2_int max_two min_two max_three min_three max_four min_four   -- for this text's walks alone
set_option linter.unusedVariables false
set_option linter.unusedSimpArgs false

/-! ### semblancelaw15_SoundLines: function 9 -/
mutual
def semblancelaw15_SoundLines.j0 : Nat → List (S64) → Int → List ByteArray → ByteArray → Bool → Option (Bool)
  | 0, _, _, _, _, _ => none
  | k + 1, x0, x1, x5, x6, x22 => if x22 = true then (if 0 ≤ x1 then (if x1 < (x5.length : Int) then (semblancelaw15_SoundLines.j1 k x0 x1 x5 (rdOf ByteArray.empty x5 x1)) else (none)) else (none)) else (semblancelaw15_SoundLines.j1 k x0 x1 x5 x6)
def semblancelaw15_SoundLines.j1 : Nat → List (S64) → Int → List ByteArray → ByteArray → Option (Bool)
  | 0, _, _, _, _ => none
  | k + 1, x0, x1, x5, x6 => (sound_Lines.f k x0).bind fun t221 => ((sound_Word.f x1).bind fun t224 => (if t224.toList = x6.toList then (semblancelaw15_SoundLines.j2 k x0 x5 t221 ((t221.length : Int) != (x0.length : Int))) else (semblancelaw15_SoundLines.j2 k x0 x5 t221 true)))
def semblancelaw15_SoundLines.j2 : Nat → List (S64) → List ByteArray → List ByteArray → Bool → Option (Bool)
  | 0, _, _, _, _ => none
  | k + 1, x0, x5, x7, x39 => if x39 = true then (some false) else (semblancelaw15_SoundLines.l0 k x0 x5 x7 0)
def semblancelaw15_SoundLines.l0 : Nat → List (S64) → List ByteArray → List ByteArray → Int → Option (Bool)
  | 0, _, _, _, _ => none
  | k + 1, x0, x5, x7, x8 => if x8 < (x0.length : Int) then (if 0 ≤ x8 then (if ((rd_T64 x0 x8).f0) ≥ 1 then (semblancelaw15_SoundLines.j4 k x0 x5 x7 x8 (⟨#[63]⟩ : ByteArray) (decide (((rd_T64 x0 x8).f0) ≤ 10))) else (semblancelaw15_SoundLines.j4 k x0 x5 x7 x8 (⟨#[63]⟩ : ByteArray) false)) else (none)) else ((semblancelaw15_awake.f k).bind fun t225 => (some t225))
def semblancelaw15_SoundLines.j4 : Nat → List (S64) → List ByteArray → List ByteArray → Int → ByteArray → Bool → Option (Bool)
  | 0, _, _, _, _, _, _ => none
  | k + 1, x0, x5, x7, x8, x9, x59 => if x59 = true then (if 0 ≤ x8 then (if x8 < (x0.length : Int) then (if 0 ≤ ((rd_T64 x0 x8).f0) then (if ((rd_T64 x0 x8).f0) < (x5.length : Int) then (semblancelaw15_SoundLines.j5 k x0 x5 x7 x8 (rdOf ByteArray.empty x5 ((rd_T64 x0 x8).f0))) else (none)) else (none)) else (none)) else (none)) else (semblancelaw15_SoundLines.j5 k x0 x5 x7 x8 x9)
def semblancelaw15_SoundLines.j5 : Nat → List (S64) → List ByteArray → List ByteArray → Int → ByteArray → Option (Bool)
  | 0, _, _, _, _, _ => none
  | k + 1, x0, x5, x7, x8, x9 => if 0 ≤ x8 then (if x8 < (x7.length : Int) then (if x9.size + 1 ≤ 9223372036854775807 then (if x8 < (x0.length : Int) then ((semblanceref01_Put.f k ((rd_T64 x0 x8).f1)).bind fun t232 => (if (x9 ++ (⟨#[32]⟩ : ByteArray)).size + t232.size ≤ 9223372036854775807 then (if ((x9 ++ (⟨#[32]⟩ : ByteArray)) ++ t232).size + 1 ≤ 9223372036854775807 then ((semblanceref01_Put.f k ((rd_T64 x0 x8).f2)).bind fun t234 => (if (((x9 ++ (⟨#[32]⟩ : ByteArray)) ++ t232) ++ (⟨#[32]⟩ : ByteArray)).size + t234.size ≤ 9223372036854775807 then (if (rdOf ByteArray.empty x7 x8).toList = ((((x9 ++ (⟨#[32]⟩ : ByteArray)) ++ t232) ++ (⟨#[32]⟩ : ByteArray)) ++ t234).toList then (semblancelaw15_SoundLines.l0 k x0 x5 x7 (wrap64 (x8 + 1))) else (some false)) else (none))) else (none)) else (none))) else (none)) else (none)) else (none)) else (none)
end
def semblancelaw15_SoundLines.f (k : Nat) (l0 : List (S64)) (a1 : Int) : Option (Bool) := if (l0.length : Int) > 60 then ((semblancelaw15_awake.f k).bind fun t216 => (some t216)) else ((semblanceref15_Words.f).bind fun t217 => (if a1 ≥ 0 then (semblancelaw15_SoundLines.j0 k l0 a1 t217 (⟨#[]⟩ : ByteArray) (decide (a1 < (t217.length : Int)))) else (semblancelaw15_SoundLines.j0 k l0 a1 t217 (⟨#[]⟩ : ByteArray) false)))
theorem semblancelaw15_SoundLines.mono_l : ∀ k, (∀ y0 y1 y2 y3 y4, LeO (semblancelaw15_SoundLines.j0 k y0 y1 y2 y3 y4) (semblancelaw15_SoundLines.j0 (k + 1) y0 y1 y2 y3 y4)) ∧ (∀ y0 y1 y2 y3, LeO (semblancelaw15_SoundLines.j1 k y0 y1 y2 y3) (semblancelaw15_SoundLines.j1 (k + 1) y0 y1 y2 y3)) ∧ (∀ y0 y1 y2 y3, LeO (semblancelaw15_SoundLines.j2 k y0 y1 y2 y3) (semblancelaw15_SoundLines.j2 (k + 1) y0 y1 y2 y3)) ∧ (∀ y0 y1 y2 y3, LeO (semblancelaw15_SoundLines.l0 k y0 y1 y2 y3) (semblancelaw15_SoundLines.l0 (k + 1) y0 y1 y2 y3)) ∧ (∀ y0 y1 y2 y3 y4 y5, LeO (semblancelaw15_SoundLines.j4 k y0 y1 y2 y3 y4 y5) (semblancelaw15_SoundLines.j4 (k + 1) y0 y1 y2 y3 y4 y5)) ∧ (∀ y0 y1 y2 y3 y4, LeO (semblancelaw15_SoundLines.j5 k y0 y1 y2 y3 y4) (semblancelaw15_SoundLines.j5 (k + 1) y0 y1 y2 y3 y4))
  | 0 => ⟨fun _ _ _ _ _ r h => by simp [semblancelaw15_SoundLines.j0] at h, fun _ _ _ _ r h => by simp [semblancelaw15_SoundLines.j1] at h, fun _ _ _ _ r h => by simp [semblancelaw15_SoundLines.j2] at h, fun _ _ _ _ r h => by simp [semblancelaw15_SoundLines.l0] at h, fun _ _ _ _ _ _ r h => by simp [semblancelaw15_SoundLines.j4] at h, fun _ _ _ _ _ r h => by simp [semblancelaw15_SoundLines.j5] at h⟩
  | k + 1 => by
    obtain ⟨ih0, ih1, ih2, ih3, ih4, ih5⟩ := semblancelaw15_SoundLines.mono_l k
    refine ⟨?_, ?_, ?_, ?_, ?_, ?_⟩
    · intro y0 y1 y2 y3 y4
      unfold semblancelaw15_SoundLines.j0
      exact mo_
    · intro y0 y1 y2 y3
      unfold semblancelaw15_SoundLines.j1
      exact mo_
    · intro y0 y1 y2 y3
      unfold semblancelaw15_SoundLines.j2
      exact mo_
    · intro y0 y1 y2 y3
      unfold semblancelaw15_SoundLines.l0
      exact mo_
    · intro y0 y1 y2 y3 y4 y5
      unfold semblancelaw15_SoundLines.j4
      exact mo_
    · intro y0 y1 y2 y3 y4
      unfold semblancelaw15_SoundLines.j5
      exact mo_
theorem semblancelaw15_SoundLines.mono : ∀ a0 a1 k, LeO (semblancelaw15_SoundLines.f k a0 a1) (semblancelaw15_SoundLines.f (k + 1) a0 a1) := by
  intro a0 a1 k
  obtain ⟨ih0, ih1, ih2, ih3, ih4, ih5⟩ := semblancelaw15_SoundLines.mono_l k
  unfold semblancelaw15_SoundLines.f
  exact mo_
instance semblancelaw15_SoundLines.lc : ∀ a0 a1 k, LeC (semblancelaw15_SoundLines.f k a0 a1) (semblancelaw15_SoundLines.f (k + 1) a0 a1) := fun a0 a1 k => ⟨semblancelaw15_SoundLines.mono a0 a1 k⟩
theorem hc24_ {w W : World} {a : Addr} {v : Value} (hb : Below w.heap.size w W) (h : w.cell? a = some v) : W.cell? a = some v := (hb.cell (World.block_lt_of_cell? w _ h)).trans h
theorem bz24_ {W W2 w : World} (_ : Below W.heap.size W W2) (h : Below w.heap.size w W) : Below w.heap.size w W := h
set_option maxHeartbeats 8000000 in
set_option maxRecDepth 100000 in
theorem semblancelaw15_SoundLines.calls (k : Nat) (A0 : Option Addr) (c0 : Nat) (l0 : List (S64)) (a1 : Int) (r : Bool) (w : World) (hr0 : Kd.C k64 w A0 l0.length l0) (hc0 : l0.length ≤ c0) (h : semblancelaw15_SoundLines.f k l0 a1 = some r) :
  Calls Try.prog 9 #[.slice A0 l0.length c0, .int .i64 a1] w fun e w' => e = .returned (.bool r) ∧ Below w.heap.size w w' := by
 have HR0 := Aside0.mk hr0
 have HC0 := Aside0.mk hc0
 clear hr0 hc0
 have HB := Aside0.mk (Below.refl w.heap.size w)
 unfold semblancelaw15_SoundLines.f at h
 have H := h
 clear h
 replace H := id_ H; obtain ⟨c3, H⟩ | ⟨c3, H⟩ := H
 ·have c3b0 : decide (60 < (l0.length : Int)) = true := decide_eq_true c3
  have c3b1 : decide (60 < l0.length) = true := decide_eq_true (by omega)
  clear c3
  replace H := bi_ H; obtain ⟨t216, A4, H⟩ := H
  obtain rfl := Option.some.inj H
  go_enter Try.func9, Try.ntmps9
  go_wp2_with (first | (go_at_call 33; (with_reducible refine cm_ (semblancelaw15_awake.calls k  t216 _ A4.out) ?_); intro w5 hb; replace HB := ts_ HB hb; clear hb))
  repeat (go_quiet (first | (go_at_call 33; (with_reducible refine cm_ (semblancelaw15_awake.calls k  t216 _ A4.out) ?_); intro w5 hb; replace HB := ts_ HB hb; clear hb)); try go_wp2_with (first | (go_at_call 33; (with_reducible refine (semblancelaw15_awake.calls k  t216 _ A4.out).mono ?_); rintro e w5 ⟨rfl, hb⟩; have n0_ := Aside0.mk (below_step (brw HB.out) hb); clear HB; have HB := n0_; clear n0_; (try clear hb))))
  go_ret
  exact ⟨rv_, bw_⟩
 have c3b0 : decide (60 < (l0.length : Int)) = false := decide_eq_false c3
 have c3b1 : decide (60 < l0.length) = false := decide_eq_false (by omega)
 clear c3
 replace H := bi_ H; obtain ⟨t217, A6, H⟩ := H
 have HC7 := Aside0.mk H
 clear H
 go_enter Try.func9, Try.ntmps9
 go_upto_region 5 with (first | (go_at_call 34; (with_reducible refine (semblanceref15_Words.calls  t217 _ A6.out).mono ?_); rintro e w8 ⟨v218, rfl, ho0, hb⟩; have hB_ := bu_ HB hb; have HO219 := Aside0.mk (Kd.R_lower ho0 (below_size hB_)); replace HB := Aside0.mk (below_step hB_ hb); clear hb; (try clear ho0)))
 repeat (go_quiet (first | (go_at_call 34; (with_reducible refine (semblanceref15_Words.calls  t217 _ A6.out).mono ?_); rintro e w8 ⟨v218, rfl, ho0, hb⟩; have hB_ := bu_ HB hb; have HO219 := Aside0.mk (Kd.R_lower ho0 (below_size hB_)); replace HB := Aside0.mk (below_step hB_ hb); clear hb; (try clear ho0))); go_upto_region 5 with (first | (go_at_call 34; (with_reducible refine (semblanceref15_Words.calls  t217 _ A6.out).mono ?_); rintro e w8 ⟨v218, rfl, ho0, hb⟩; have hB_ := bu_ HB hb; have n0_ := Aside0.mk (Kd.R_lower ho0 (below_size hB_)); have n1_ := Aside0.mk (below_step hB_ hb); clear HB; have HO219 := n0_; have HB := n1_; clear n0_ n1_; (try clear hb); (try clear ho0))))
 (try simp only [Act.put, sb_, s0_, s1_])
 go_cut [22] (fun v22 wc => ∃ (kq : Nat) (x22_6 : Bool), v22 = .bool x22_6 ∧ Aside0 (semblancelaw15_SoundLines.j0 kq l0 a1 t217 (⟨#[]⟩ : ByteArray) x22_6 = some r) ∧ Aside0 (kq ≤ k) ∧ Aside0 (Kd.R Kd.string 9 wc w.heap.size (fun _ => True) v218 t217) ∧ Aside0 (Below w.heap.size w wc))
 case first =>
  have H := HC7.out
  clear HC7
  replace H := ic_ H; obtain ⟨c9, H⟩ | ⟨c9, H⟩ := H
  ·have c9b0 : decide (0 ≤ a1) = false := decide_eq_false c9
   clear c9
   (first | rw [c9b0] | (simp only [i64_w, i32_w]; rw [c9b0]) | skip)
   have H' := Aside0.mk H
   clear H
   go_wp2
   repeat (go_quiet (fail); try go_wp2)
   go_meet
   case rel => exact ⟨_, (false), rl_, H', ⟨km_⟩, ⟨by (with_reducible repeat (first | apply Kd.R_alloc | apply Kd.R_drewN | apply Kd.R_drew)); exact HO219.out⟩, ⟨bw_⟩⟩
  have c9b0 : decide (0 ≤ a1) = true := decide_eq_true c9
  clear c9
  (first | rw [c9b0] | (simp only [i64_w, i32_w]; rw [c9b0]) | skip)
  have H' := Aside0.mk H
  clear H
  obtain ⟨Ao10, co10, eo10⟩ := Kd.R_slice HO219.out
  subst eo10
  go_wp2
  repeat (go_quiet (fail); try go_wp2)
  go_meet
  case rel => exact ⟨_, (decide (a1 < (t217.length : Int))), rl_, H', ⟨km_⟩, ⟨by (with_reducible repeat (first | apply Kd.R_alloc | apply Kd.R_drewN | apply Kd.R_drew)); exact HO219.out⟩, ⟨bw_⟩⟩
 case rest =>
  clear HC7
  try clear c3b0
  try clear c3b1
  obtain ⟨kq, x22_6, rfl, HA, HJ6, HO_5, HB⟩ := hcut
  cases kq with
  | zero => exact absurd HA.out (by simp [semblancelaw15_SoundLines.j0])
  | succ kj6 =>
   have H := HA.out
   clear HA
   simp only [semblancelaw15_SoundLines.j0] at H
   have HC11 := Aside0.mk H
   clear H
   go_upto_if 22 with (fail)
   repeat (go_quiet (fail); go_upto_if 22 with (fail))
   go_cut [6] (fun v6 wc => ∃ (kq : Nat) (x6_10 : ByteArray), v6 = .string x6_10 ∧ Aside0 (semblancelaw15_SoundLines.j1 kq l0 a1 t217 x6_10 = some r) ∧ Aside0 (kq ≤ kj6) ∧ Aside0 (Kd.R Kd.string 9 wc w.heap.size (fun _ => True) v218 t217) ∧ Aside0 (Below w.heap.size w wc))
   case first =>
    have H := HC11.out
    clear HC11
    replace H := ib_ H; obtain ⟨rfl, H⟩ | ⟨rfl, H⟩ := H
    ·have H' := Aside0.mk H
     clear H
     go_wp2
     repeat (go_quiet (fail); try go_wp2)
     go_meet
     case rel => exact ⟨_, ((⟨#[]⟩ : ByteArray)), rl_, H', ⟨kn_ HJ6⟩, ⟨by (with_reducible repeat (first | apply Kd.R_alloc | apply Kd.R_drewN | apply Kd.R_drew)); exact HO_5.out⟩, ⟨bw_⟩⟩
    replace H := is_ H; obtain ⟨c13b0, H⟩ := H
    (first | rw [c13b0] | (simp only [i64_w, i32_w]; rw [c13b0]) | skip)
    replace H := is_ H; obtain ⟨c14b0, H⟩ := H
    have H' := Aside0.mk H
    clear H
    obtain ⟨Ao15, co15, eo15⟩ := Kd.R_slice HO_5.out
    subst eo15
    have p220 : 0 ≤ (a1 : Int) := of_decide_eq_true (by first | (with_reducible assumption) | assumption)
    have q220 : a1 < (t217.length : Int) := of_decide_eq_true (by first | (with_reducible assumption) | assumption)
    obtain ⟨ad220, e220, hx220_0⟩ := Kd.at_string (Kd.R_reads' HO_5.out).2.2 a1 p220 q220
    cases e220
    replace p220 := eq_true p220
    replace q220 := eq_true q220
    go_wp2
    repeat (go_quiet (fail); try go_wp2)
    go_meet
    case rel => exact ⟨_, (rdOf ByteArray.empty t217 a1), rl_, H', ⟨kn_ HJ6⟩, ⟨by (with_reducible repeat (first | apply Kd.R_alloc | apply Kd.R_drewN | apply Kd.R_drew)); exact HO_5.out⟩, ⟨bw_⟩⟩
   case rest =>
    clear HC11
    try clear c3b0
    try clear c3b1
    obtain ⟨kq, x6_10, rfl, HA, HJ10, HO_5, HB⟩ := hcut
    cases kq with
    | zero => exact absurd HA.out (by simp [semblancelaw15_SoundLines.j1])
    | succ kj10 =>
     have H := HA.out
     clear HA
     simp only [semblancelaw15_SoundLines.j1] at H
     replace H := bi_ H; obtain ⟨t221, A16, H⟩ := H
     have HC17 := Aside0.mk H
     clear H
     go_upto_region 8 with (first | (go_at_call 35; (with_reducible refine (sound_Lines.calls kj10 _ _ l0 t221 _ (kc_ HR0 HB) HC0.out A16.out).mono ?_); rintro e w18 ⟨v222, rfl, ho0, hb⟩; have hB_ := bu_ HB hb; have HO223 := Aside0.mk (Kd.R_lower (Kd.R_new' ho0 (Kd.R_lt (kR_ HO_5))) (below_size hB_)); replace HO_5 := Aside0.mk (Kd.R_elder' (kR_ HO_5) (Kd.R_base ho0) hb); replace HB := Aside0.mk (below_step hB_ hb); clear hb; (try clear ho0)))
     repeat (go_quiet (first | (go_at_call 35; (with_reducible refine (sound_Lines.calls kj10 _ _ l0 t221 _ (kc_ HR0 HB) HC0.out A16.out).mono ?_); rintro e w18 ⟨v222, rfl, ho0, hb⟩; have hB_ := bu_ HB hb; have HO223 := Aside0.mk (Kd.R_lower (Kd.R_new' ho0 (Kd.R_lt (kR_ HO_5))) (below_size hB_)); replace HO_5 := Aside0.mk (Kd.R_elder' (kR_ HO_5) (Kd.R_base ho0) hb); replace HB := Aside0.mk (below_step hB_ hb); clear hb; (try clear ho0))); go_upto_region 8 with (first | (go_at_call 35; (with_reducible refine (sound_Lines.calls kj10 _ _ l0 t221 _ (kc_ HR0 HB) HC0.out A16.out).mono ?_); rintro e w18 ⟨v222, rfl, ho0, hb⟩; have hB_ := bu_ HB hb; have n0_ := Aside0.mk (Kd.R_elder' (kR_ HO_5) (Kd.R_base ho0) hb); have n1_ := Aside0.mk (Kd.R_lower (Kd.R_new' ho0 (Kd.R_lt (kR_ HO_5))) (below_size hB_)); have n2_ := Aside0.mk (below_step hB_ hb); clear HO_5; clear HB; have HO_5 := n0_; have HO223 := n1_; have HB := n2_; clear n0_ n1_ n2_; (try clear hb); (try clear ho0))))
     (try simp only [Act.put, sb_, s0_, s1_])
     go_cut [39] (fun v39 wc => ∃ (kq : Nat) (x39_16 : Bool), v39 = .bool x39_16 ∧ Aside0 (semblancelaw15_SoundLines.j2 kq l0 t217 t221 x39_16 = some r) ∧ Aside0 (kq ≤ kj10) ∧ Aside0 (Kd.R Kd.string 9 wc w.heap.size (fun k_ => some k_ ≠ (v222 : Value).ownBlock) v218 t217) ∧ Aside0 (Kd.R Kd.string 9 wc w.heap.size (fun k_ => some k_ ≠ (v218 : Value).ownBlock) v222 t221) ∧ Aside0 (Below w.heap.size w wc))
     case first =>
      have H := HC17.out
      clear HC17
      replace H := bi_ H; obtain ⟨t224, A19, H⟩ := H
      replace H := ic_ H; obtain ⟨c20, H⟩ | ⟨c20, H⟩ := H
      ·have c20b0 : (t224.toList == x6_10.toList) = false := beq_eq_false_iff_ne.mpr c20
       have c20b1 : (t224.toList != x6_10.toList) = true := bne_iff_ne.mpr c20
       (first | rw [c20b0] | (simp only [i64_w, i32_w]; rw [c20b0]) | skip)
       have H' := Aside0.mk H
       clear H
       go_wp2_with (first | (go_at_call 36; (with_reducible refine cm_ (sound_Word.calls a1 t224 _ A19.out) ?_); intro w23 hb; replace HO_5 := Aside0.mk (Kd.R_below (kR_ HO_5) hb); replace HO223 := Aside0.mk (Kd.R_below (kR_ HO223) hb); replace HB := ts_ HB hb; clear hb))
       repeat (go_quiet (first | (go_at_call 36; (with_reducible refine cm_ (sound_Word.calls a1 t224 _ A19.out) ?_); intro w23 hb; replace HO_5 := Aside0.mk (Kd.R_below (kR_ HO_5) hb); replace HO223 := Aside0.mk (Kd.R_below (kR_ HO223) hb); replace HB := ts_ HB hb; clear hb)); try go_wp2_with (first | (go_at_call 36; (with_reducible refine (sound_Word.calls a1 t224 _ A19.out).mono ?_); rintro e w23 ⟨rfl, hb⟩; have n0_ := Aside0.mk (Kd.R_below (kR_ HO_5) hb); have n1_ := Aside0.mk (Kd.R_below (kR_ HO223) hb); have n2_ := Aside0.mk (below_step (brw HB.out) hb); clear HO_5; clear HO223; clear HB; have HO_5 := n0_; have HO223 := n1_; have HB := n2_; clear n0_ n1_ n2_; (try clear hb))))
       go_meet
       case rel => exact ⟨_, (true), rl_, H', ⟨by have := HJ6.out; have := HJ10.out; first | omega | exact Nat.le_refl _⟩, ⟨by (with_reducible repeat (first | apply Kd.R_alloc | apply Kd.R_drewN | apply Kd.R_drew)); exact Kd.R_mono HO_5.out (fun _ hk => hk.2)⟩, ⟨by (with_reducible repeat (first | apply Kd.R_alloc | apply Kd.R_drewN | apply Kd.R_drew)); exact Kd.R_mono HO223.out (fun _ hk => hk.2)⟩, ⟨bw_⟩⟩
      have c20b0 : (t224.toList == x6_10.toList) = true := beq_iff_eq.mpr c20
      have c20b1 : (t224.toList != x6_10.toList) = false := bne_eq_false_iff_eq.mpr c20
      clear c20
      (first | rw [c20b0] | (simp only [i64_w, i32_w]; rw [c20b0]) | skip)
      have H' := Aside0.mk H
      clear H
      go_wp2_with (first | (go_at_call 36; (with_reducible refine cm_ (sound_Word.calls a1 t224 _ A19.out) ?_); intro w21 hb; replace HO_5 := Aside0.mk (Kd.R_below (kR_ HO_5) hb); replace HO223 := Aside0.mk (Kd.R_below (kR_ HO223) hb); replace HB := ts_ HB hb; clear hb; obtain ⟨Ao22, co22, eo22⟩ := Kd.R_slice HO223.out; subst eo22))
      repeat (go_quiet (first | (go_at_call 36; (with_reducible refine cm_ (sound_Word.calls a1 t224 _ A19.out) ?_); intro w21 hb; replace HO_5 := Aside0.mk (Kd.R_below (kR_ HO_5) hb); replace HO223 := Aside0.mk (Kd.R_below (kR_ HO223) hb); replace HB := ts_ HB hb; clear hb; obtain ⟨Ao22, co22, eo22⟩ := Kd.R_slice HO223.out; subst eo22)); try go_wp2_with (first | (go_at_call 36; (with_reducible refine (sound_Word.calls a1 t224 _ A19.out).mono ?_); rintro e w21 ⟨rfl, hb⟩; have n0_ := Aside0.mk (Kd.R_below (kR_ HO_5) hb); have n1_ := Aside0.mk (Kd.R_below (kR_ HO223) hb); have n2_ := Aside0.mk (below_step (brw HB.out) hb); clear HO_5; clear HO223; clear HB; have HO_5 := n0_; have HO223 := n1_; have HB := n2_; clear n0_ n1_ n2_; (try clear hb); obtain ⟨Ao22, co22, eo22⟩ := Kd.R_slice HO223.out; subst eo22)))
      go_meet
      case rel => exact ⟨_, (((t221.length : Int) != (l0.length : Int))), rl_, H', ⟨by have := HJ6.out; have := HJ10.out; first | omega | exact Nat.le_refl _⟩, ⟨by (with_reducible repeat (first | apply Kd.R_alloc | apply Kd.R_drewN | apply Kd.R_drew)); exact Kd.R_mono HO_5.out (fun _ hk => hk.2)⟩, ⟨by (with_reducible repeat (first | apply Kd.R_alloc | apply Kd.R_drewN | apply Kd.R_drew)); exact Kd.R_mono HO223.out (fun _ hk => hk.2)⟩, ⟨bw_⟩⟩
     case rest =>
      clear HC17
      try clear c3b0
      try clear c3b1
      obtain ⟨kq, x39_16, rfl, HA, HJ16, HO_5, HO_7, HB⟩ := hcut
      cases kq with
      | zero => exact absurd HA.out (by simp [semblancelaw15_SoundLines.j2])
      | succ kj16 =>
       have H := HA.out
       clear HA
       simp only [semblancelaw15_SoundLines.j2] at H
       replace H := ie_ H; obtain ⟨rfl, H⟩ | ⟨rfl, H⟩ := H
       ·obtain rfl := Option.some.inj H
        go_wp2
        repeat (go_quiet (fail); try go_wp2)
        go_ret
        exact ⟨rv_, bw_⟩
       have H' := Aside0.mk H
       clear H
       go_wp2
       repeat (go_quiet (fail); try go_wp2)
       go_loopg [8] kj16 (fun kq v8 w' => ∃ (x8_4 : Int), v8 = .int .i64 x8_4 ∧ Aside0 (semblancelaw15_SoundLines.l0 kq l0 t217 t221 x8_4 = some r) ∧ Aside0 (kq ≤ kj16) ∧ Aside0 (Kd.R Kd.string 9 w' w.heap.size (fun k_ => some k_ ≠ (v222 : Value).ownBlock) v218 t217) ∧ Aside0 (Kd.R Kd.string 9 w' w.heap.size (fun k_ => some k_ ≠ (v218 : Value).ownBlock) v222 t221) ∧ Aside0 (Below w.heap.size w w'))
       case atStart => exact ⟨(0), rl_, H', ⟨Nat.le_refl _⟩, ⟨by (with_reducible repeat (first | apply Kd.R_alloc | apply Kd.R_drewN | apply Kd.R_drew)); exact HO_5.out⟩, ⟨by (with_reducible repeat (first | apply Kd.R_alloc | apply Kd.R_drewN | apply Kd.R_drew)); exact HO_7.out⟩, ⟨bw_⟩⟩
       case round =>
        clear H'
        try clear c3b0
        try clear c3b1
        try clear c24
        obtain ⟨x8_4, rfl, HA, HK4, HO_5, HO_7, HB⟩ := hrel
        cases gk with
        | zero => exact absurd HA.out (by simp [semblancelaw15_SoundLines.l0])
        | succ k4 =>
         have H := HA.out
         clear HA
         simp only [semblancelaw15_SoundLines.l0] at H
         replace H := it_ H; obtain ⟨c25b0, H⟩ | ⟨c25b0, H⟩ := H
         ·replace H := bi_ H; obtain ⟨t225, A48, H⟩ := H
          obtain rfl := Option.some.inj H
          go_wp2_with (first | (go_at_call 33; (with_reducible refine cm_ (semblancelaw15_awake.calls k4  t225 _ A48.out) ?_); intro w49 hb; replace HO_5 := Aside0.mk (Kd.R_below (kR_ HO_5) hb); replace HO_7 := Aside0.mk (Kd.R_below (kR_ HO_7) hb); replace HB := ts_ HB hb; clear hb))
          repeat (go_quiet (first | (go_at_call 33; (with_reducible refine cm_ (semblancelaw15_awake.calls k4  t225 _ A48.out) ?_); intro w49 hb; replace HO_5 := Aside0.mk (Kd.R_below (kR_ HO_5) hb); replace HO_7 := Aside0.mk (Kd.R_below (kR_ HO_7) hb); replace HB := ts_ HB hb; clear hb)); try go_wp2_with (first | (go_at_call 33; (with_reducible refine (semblancelaw15_awake.calls k4  t225 _ A48.out).mono ?_); rintro e w49 ⟨rfl, hb⟩; have n0_ := Aside0.mk (Kd.R_below (kR_ HO_5) hb); have n1_ := Aside0.mk (Kd.R_below (kR_ HO_7) hb); have n2_ := Aside0.mk (below_step (brw HB.out) hb); clear HO_5; clear HO_7; clear HB; have HO_5 := n0_; have HO_7 := n1_; have HB := n2_; clear n0_ n1_ n2_; (try clear hb))))
          go_ret
          exact ⟨rv_, bw_⟩

         have HC26 := Aside0.mk H
         clear H
         go_upto_region 14 with (fail)
         repeat (go_quiet (fail); go_upto_region 14 with (fail))
         go_cut [59] (fun v59 wc => ∃ (kq : Nat) (x59_25 : Bool), v59 = .bool x59_25 ∧ Aside0 (semblancelaw15_SoundLines.j4 kq l0 t217 t221 x8_4 (⟨#[63]⟩ : ByteArray) x59_25 = some r) ∧ Aside0 (kq ≤ k4) ∧ Aside0 (Kd.R Kd.string 9 wc w.heap.size (fun k_ => some k_ ≠ (v222 : Value).ownBlock) v218 t217) ∧ Aside0 (Kd.R Kd.string 9 wc w.heap.size (fun k_ => some k_ ≠ (v218 : Value).ownBlock) v222 t221) ∧ Aside0 (Below w.heap.size w wc))
         case first =>
          have H := HC26.out
          clear HC26
          replace H := is_ H; obtain ⟨c27b0, H⟩ := H
          (first | rw [c27b0] | (simp only [i64_w, i32_w]; rw [c27b0]) | skip)
          replace H := ic_ H; obtain ⟨c28, H⟩ | ⟨c28, H⟩ := H
          ·have c28b0 : decide (1 ≤ ((rd_T64 l0 x8_4).f0)) = false := decide_eq_false c28
           clear c28
           have H' := Aside0.mk H
           clear H
           obtain ⟨ad226, e226, hx226_0, hx226_1, hx226_2, p226, q226⟩ := au_T64 HR0 HB x8_4; cases e226
           go_wp2
           repeat (go_quiet (fail); try go_wp2)
           go_meet
           case rel => exact ⟨_, (false), rl_, H', ⟨by have := HJ6.out; have := HJ10.out; have := HJ16.out; have := HK4.out; first | omega | exact Nat.le_refl _⟩, ⟨by (with_reducible repeat (first | apply Kd.R_alloc | apply Kd.R_drewN | apply Kd.R_drew)); exact HO_5.out⟩, ⟨by (with_reducible repeat (first | apply Kd.R_alloc | apply Kd.R_drewN | apply Kd.R_drew)); exact HO_7.out⟩, ⟨bw_⟩⟩
          have c28b0 : decide (1 ≤ ((rd_T64 l0 x8_4).f0)) = true := decide_eq_true c28
          clear c28
          have H' := Aside0.mk H
          clear H
          obtain ⟨ad226, e226, hx226_0, hx226_1, hx226_2, p226, q226⟩ := au_T64 HR0 HB x8_4; cases e226
          have p227 : 0 ≤ (x8_4 : Int) := of_decide_eq_true (by first | (with_reducible assumption) | assumption)
          have q227 : x8_4 < (l0.length : Int) := of_decide_eq_true (by first | (with_reducible assumption) | assumption)
          obtain ⟨ad227, e227, hx227_0, hx227_1, hx227_2⟩ := at_T64 HR0.out x8_4 p227 q227
          obtain rfl : ad226 = ad227 := (by injection e227)
          replace hx227_0 := hc24_ HB.out hx227_0
          replace hx227_1 := hc24_ HB.out hx227_1
          replace hx227_2 := hc24_ HB.out hx227_2
          replace p227 := eq_true p227
          replace q227 := eq_true q227
          go_wp2
          repeat (go_quiet (fail); try go_wp2)
          go_meet
          case rel => exact ⟨_, (decide (((rd_T64 l0 x8_4).f0) ≤ 10)), rl_, H', ⟨by have := HJ6.out; have := HJ10.out; have := HJ16.out; have := HK4.out; first | omega | exact Nat.le_refl _⟩, ⟨by (with_reducible repeat (first | apply Kd.R_alloc | apply Kd.R_drewN | apply Kd.R_drew)); exact HO_5.out⟩, ⟨by (with_reducible repeat (first | apply Kd.R_alloc | apply Kd.R_drewN | apply Kd.R_drew)); exact HO_7.out⟩, ⟨bw_⟩⟩
         case rest =>
          clear HC26
          try clear c3b0
          try clear c3b1
          try clear c24
          try clear c25b0
          obtain ⟨kq, x59_25, rfl, HA, HJ25, HO_5, HO_7, HB⟩ := hcut
          cases kq with
          | zero => exact absurd HA.out (by simp [semblancelaw15_SoundLines.j4])
          | succ kj25 =>
           have H := HA.out
           clear HA
           simp only [semblancelaw15_SoundLines.j4] at H
           have HC29 := Aside0.mk H
           clear H
           go_upto_if 59 with (fail)
           repeat (go_quiet (fail); go_upto_if 59 with (fail))
           go_cut [9] (fun v9 wc => ∃ (kq : Nat) (x9_28 : ByteArray), v9 = .string x9_28 ∧ Aside0 (semblancelaw15_SoundLines.j5 kq l0 t217 t221 x8_4 x9_28 = some r) ∧ Aside0 (kq ≤ kj25) ∧ Aside0 (Kd.R Kd.string 9 wc w.heap.size (fun k_ => some k_ ≠ (v222 : Value).ownBlock) v218 t217) ∧ Aside0 (Kd.R Kd.string 9 wc w.heap.size (fun k_ => some k_ ≠ (v218 : Value).ownBlock) v222 t221) ∧ Aside0 (Below w.heap.size w wc))
           case first =>
            have H := HC29.out
            clear HC29
            replace H := ib_ H; obtain ⟨rfl, H⟩ | ⟨rfl, H⟩ := H
            ·have H' := Aside0.mk H
             clear H
             go_wp2
             repeat (go_quiet (fail); try go_wp2)
             go_meet
             case rel => exact ⟨_, ((⟨#[63]⟩ : ByteArray)), rl_, H', ⟨by have := HJ6.out; have := HJ10.out; have := HJ16.out; have := HK4.out; have := HJ25.out; first | omega | exact Nat.le_refl _⟩, ⟨by (with_reducible repeat (first | apply Kd.R_alloc | apply Kd.R_drewN | apply Kd.R_drew)); exact HO_5.out⟩, ⟨by (with_reducible repeat (first | apply Kd.R_alloc | apply Kd.R_drewN | apply Kd.R_drew)); exact HO_7.out⟩, ⟨bw_⟩⟩
            replace H := is_ H; obtain ⟨c31b0, H⟩ := H
            (first | rw [c31b0] | (simp only [i64_w, i32_w]; rw [c31b0]) | skip)
            replace H := is_ H; obtain ⟨c32b0, H⟩ := H
            replace H := is_ H; obtain ⟨c33b0, H⟩ := H
            replace H := is_ H; obtain ⟨c34b0, H⟩ := H
            have H' := Aside0.mk H
            clear H
            obtain ⟨ad228, e228, hx228_0, hx228_1, hx228_2, p228, q228⟩ := au_T64 HR0 HB x8_4; cases e228
            obtain ⟨Ao35, co35, eo35⟩ := Kd.R_slice HO_5.out
            subst eo35
            have p229 : 0 ≤ (((rd_T64 l0 x8_4).f0) : Int) := of_decide_eq_true (by first | (with_reducible assumption) | assumption)
            have q229 : ((rd_T64 l0 x8_4).f0) < (t217.length : Int) := of_decide_eq_true (by first | (with_reducible assumption) | assumption)
            obtain ⟨ad229, e229, hx229_0⟩ := Kd.at_string (Kd.R_reads' HO_5.out).2.2 ((rd_T64 l0 x8_4).f0) p229 q229
            cases e229
            replace p229 := eq_true p229
            replace q229 := eq_true q229
            go_wp2
            repeat (go_quiet (fail); try go_wp2)
            go_meet
            case rel => exact ⟨_, (rdOf ByteArray.empty t217 ((rd_T64 l0 x8_4).f0)), rl_, H', ⟨by have := HJ6.out; have := HJ10.out; have := HJ16.out; have := HK4.out; have := HJ25.out; first | omega | exact Nat.le_refl _⟩, ⟨by (with_reducible repeat (first | apply Kd.R_alloc | apply Kd.R_drewN | apply Kd.R_drew)); exact HO_5.out⟩, ⟨by (with_reducible repeat (first | apply Kd.R_alloc | apply Kd.R_drewN | apply Kd.R_drew)); exact HO_7.out⟩, ⟨bw_⟩⟩
           case rest =>
            clear HC29
            try clear c3b0
            try clear c3b1
            try clear c24
            try clear c25b0
            obtain ⟨kq, x9_28, rfl, HA, HJ28, HO_5, HO_7, HB⟩ := hcut
            cases kq with
            | zero => exact absurd HA.out (by simp [semblancelaw15_SoundLines.j5])
            | succ kj28 =>
             have H := HA.out
             clear HA
             simp only [semblancelaw15_SoundLines.j5] at H
             replace H := is_ H; obtain ⟨c36b0, H⟩ := H
             replace H := is_ H; obtain ⟨c37b0, H⟩ := H
             replace H := ip_ H; obtain ⟨c38, H⟩ := H
             have c38b0 := eq_true c38
             have c38b1 : decide (x9_28.size + 1 ≤ 9223372036854775807) = true := decide_eq_true c38
             try have c38b2 : (9223372036854775807 < x9_28.size + 1) = False := eq_false (Nat.not_lt.2 c38)
             replace H := is_ H; obtain ⟨c39b0, H⟩ := H
             replace H := bi_ H; obtain ⟨t232, A40, H⟩ := H
             replace H := ip_ H; obtain ⟨c41, H⟩ := H
             have c41b0 := eq_true c41
             have c41b1 : decide ((x9_28 ++ (⟨#[32]⟩ : ByteArray)).size + t232.size ≤ 9223372036854775807) = true := decide_eq_true c41
             try have c41b2 : (9223372036854775807 < (x9_28 ++ (⟨#[32]⟩ : ByteArray)).size + t232.size) = False := eq_false (Nat.not_lt.2 c41)
             try have c41b3 : (9223372036854775807 < x9_28.size + 1 + t232.size) = False := by have h_ := c41b2; simp only [ByteArray.size_append] at h_; exact h_
             replace H := ip_ H; obtain ⟨c42, H⟩ := H
             have c42b0 := eq_true c42
             have c42b1 : decide (((x9_28 ++ (⟨#[32]⟩ : ByteArray)) ++ t232).size + 1 ≤ 9223372036854775807) = true := decide_eq_true c42
             try have c42b2 : (9223372036854775807 < ((x9_28 ++ (⟨#[32]⟩ : ByteArray)) ++ t232).size + 1) = False := eq_false (Nat.not_lt.2 c42)
             try have c42b3 : (9223372036854775807 < x9_28.size + 1 + t232.size + 1) = False := by have h_ := c42b2; simp only [ByteArray.size_append] at h_; exact h_
             replace H := bi_ H; obtain ⟨t234, A43, H⟩ := H
             replace H := ip_ H; obtain ⟨c44, H⟩ := H
             have c44b0 := eq_true c44
             have c44b1 : decide ((((x9_28 ++ (⟨#[32]⟩ : ByteArray)) ++ t232) ++ (⟨#[32]⟩ : ByteArray)).size + t234.size ≤ 9223372036854775807) = true := decide_eq_true c44
             try have c44b2 : (9223372036854775807 < (((x9_28 ++ (⟨#[32]⟩ : ByteArray)) ++ t232) ++ (⟨#[32]⟩ : ByteArray)).size + t234.size) = False := eq_false (Nat.not_lt.2 c44)
             try have c44b3 : (9223372036854775807 < x9_28.size + 1 + t232.size + 1 + t234.size) = False := by have h_ := c44b2; simp only [ByteArray.size_append] at h_; exact h_
             replace H := ic_ H; obtain ⟨c45, H⟩ | ⟨c45, H⟩ := H
             ·have c45b0 : ((rdOf ByteArray.empty t221 x8_4).toList == ((((x9_28 ++ (⟨#[32]⟩ : ByteArray)) ++ t232) ++ (⟨#[32]⟩ : ByteArray)) ++ t234).toList) = false := beq_eq_false_iff_ne.mpr c45
              have c45b1 : ((rdOf ByteArray.empty t221 x8_4).toList != ((((x9_28 ++ (⟨#[32]⟩ : ByteArray)) ++ t232) ++ (⟨#[32]⟩ : ByteArray)) ++ t234).toList) = true := bne_iff_ne.mpr c45
              obtain rfl := Option.some.inj H
              obtain ⟨Ao47, co47, eo47⟩ := Kd.R_slice HO_7.out
              subst eo47
              have p230 : 0 ≤ (x8_4 : Int) := of_decide_eq_true (by first | (with_reducible assumption) | assumption)
              have q230 : x8_4 < (t221.length : Int) := of_decide_eq_true (by first | (with_reducible assumption) | assumption)
              obtain ⟨ad230, e230, hx230_0⟩ := Kd.at_string (Kd.R_reads' HO_7.out).2.2 x8_4 p230 q230
              cases e230
              replace p230 := eq_true p230
              replace q230 := eq_true q230
              obtain ⟨ad231, e231, hx231_0, hx231_1, hx231_2, p231, q231⟩ := au_T64 HR0 HB x8_4; cases e231
              go_wp2_with (first | (go_at_call 37; (with_reducible refine (semblanceref01_Put.calls kj28 ((rd_T64 l0 x8_4).f1) t232 _ A40.out).mono ?_); rintro e w' ⟨rfl, ⟨nd, rfl⟩⟩; (try first | exact ⟨rfl, _, World.drewN_drewN _ _ _⟩ | exact ⟨rfl, _, Eq.trans (World.drewN_drewN _ _ _) (congrArg (World.drewN _) (Nat.add_assoc _ _ _))⟩); have p233 : 0 ≤ (x8_4 : Int) := of_decide_eq_true (by first | (with_reducible assumption) | assumption); have q233 : x8_4 < (l0.length : Int) := of_decide_eq_true (by first | (with_reducible assumption) | assumption); obtain ⟨ad233, e233, hx233_0, hx233_1, hx233_2⟩ := at_T64 HR0.out x8_4 p233 q233; obtain rfl : ad231 = ad233 := (by injection e233); replace hx233_0 := hc24_ HB.out hx233_0; replace hx233_1 := hc24_ HB.out hx233_1; replace hx233_2 := hc24_ HB.out hx233_2; replace p233 := eq_true p233; replace q233 := eq_true q233) | (go_at_call 37; (with_reducible refine (semblanceref01_Put.calls kj28 ((rd_T64 l0 x8_4).f2) t234 _ A43.out).mono ?_); rintro e w' ⟨rfl, ⟨nd, rfl⟩⟩; (try first | exact ⟨rfl, _, World.drewN_drewN _ _ _⟩ | exact ⟨rfl, _, Eq.trans (World.drewN_drewN _ _ _) (congrArg (World.drewN _) (Nat.add_assoc _ _ _))⟩)))
              repeat (go_quiet (first | (go_at_call 37; (with_reducible refine (semblanceref01_Put.calls kj28 ((rd_T64 l0 x8_4).f1) t232 _ A40.out).mono ?_); rintro e w' ⟨rfl, ⟨nd, rfl⟩⟩; (try first | exact ⟨rfl, _, World.drewN_drewN _ _ _⟩ | exact ⟨rfl, _, Eq.trans (World.drewN_drewN _ _ _) (congrArg (World.drewN _) (Nat.add_assoc _ _ _))⟩); have p233 : 0 ≤ (x8_4 : Int) := of_decide_eq_true (by first | (with_reducible assumption) | assumption); have q233 : x8_4 < (l0.length : Int) := of_decide_eq_true (by first | (with_reducible assumption) | assumption); obtain ⟨ad233, e233, hx233_0, hx233_1, hx233_2⟩ := at_T64 HR0.out x8_4 p233 q233; obtain rfl : ad231 = ad233 := (by injection e233); replace hx233_0 := hc24_ HB.out hx233_0; replace hx233_1 := hc24_ HB.out hx233_1; replace hx233_2 := hc24_ HB.out hx233_2; replace p233 := eq_true p233; replace q233 := eq_true q233) | (go_at_call 37; (with_reducible refine (semblanceref01_Put.calls kj28 ((rd_T64 l0 x8_4).f2) t234 _ A43.out).mono ?_); rintro e w' ⟨rfl, ⟨nd, rfl⟩⟩; (try first | exact ⟨rfl, _, World.drewN_drewN _ _ _⟩ | exact ⟨rfl, _, Eq.trans (World.drewN_drewN _ _ _) (congrArg (World.drewN _) (Nat.add_assoc _ _ _))⟩))); try go_wp2_with (first | (go_at_call 37; (with_reducible refine (semblanceref01_Put.calls kj28 ((rd_T64 l0 x8_4).f1) t232 _ A40.out).mono ?_); rintro e w' ⟨rfl, ⟨nd, rfl⟩⟩; (try first | exact ⟨rfl, _, World.drewN_drewN _ _ _⟩ | exact ⟨rfl, _, Eq.trans (World.drewN_drewN _ _ _) (congrArg (World.drewN _) (Nat.add_assoc _ _ _))⟩); have p233 : 0 ≤ (x8_4 : Int) := of_decide_eq_true (by first | (with_reducible assumption) | assumption); have q233 : x8_4 < (l0.length : Int) := of_decide_eq_true (by first | (with_reducible assumption) | assumption); obtain ⟨ad233, e233, hx233_0, hx233_1, hx233_2⟩ := at_T64 HR0.out x8_4 p233 q233; obtain rfl : ad231 = ad233 := (by injection e233); replace hx233_0 := hc24_ HB.out hx233_0; replace hx233_1 := hc24_ HB.out hx233_1; replace hx233_2 := hc24_ HB.out hx233_2; replace p233 := eq_true p233; replace q233 := eq_true q233) | (go_at_call 37; (with_reducible refine (semblanceref01_Put.calls kj28 ((rd_T64 l0 x8_4).f2) t234 _ A43.out).mono ?_); rintro e w' ⟨rfl, ⟨nd, rfl⟩⟩; (try first | exact ⟨rfl, _, World.drewN_drewN _ _ _⟩ | exact ⟨rfl, _, Eq.trans (World.drewN_drewN _ _ _) (congrArg (World.drewN _) (Nat.add_assoc _ _ _))⟩))))
              go_ret
              exact ⟨rv_, bw_⟩
             have c45b0 : ((rdOf ByteArray.empty t221 x8_4).toList == ((((x9_28 ++ (⟨#[32]⟩ : ByteArray)) ++ t232) ++ (⟨#[32]⟩ : ByteArray)) ++ t234).toList) = true := beq_iff_eq.mpr c45
             have c45b1 : ((rdOf ByteArray.empty t221 x8_4).toList != ((((x9_28 ++ (⟨#[32]⟩ : ByteArray)) ++ t232) ++ (⟨#[32]⟩ : ByteArray)) ++ t234).toList) = false := bne_eq_false_iff_eq.mpr c45
             clear c45
             have H' := Aside0.mk H
             clear H
             obtain ⟨Ao46, co46, eo46⟩ := Kd.R_slice HO_7.out
             subst eo46
             have p230 : 0 ≤ (x8_4 : Int) := of_decide_eq_true (by first | (with_reducible assumption) | assumption)
             have q230 : x8_4 < (t221.length : Int) := of_decide_eq_true (by first | (with_reducible assumption) | assumption)
             obtain ⟨ad230, e230, hx230_0⟩ := Kd.at_string (Kd.R_reads' HO_7.out).2.2 x8_4 p230 q230
             cases e230
             replace p230 := eq_true p230
             replace q230 := eq_true q230
             obtain ⟨ad231, e231, hx231_0, hx231_1, hx231_2, p231, q231⟩ := au_T64 HR0 HB x8_4; cases e231
             go_wp2_with (first | (go_at_call 37; (with_reducible refine (semblanceref01_Put.calls kj28 ((rd_T64 l0 x8_4).f1) t232 _ A40.out).mono ?_); rintro e w' ⟨rfl, ⟨nd, rfl⟩⟩; (try first | exact ⟨rfl, _, World.drewN_drewN _ _ _⟩ | exact ⟨rfl, _, Eq.trans (World.drewN_drewN _ _ _) (congrArg (World.drewN _) (Nat.add_assoc _ _ _))⟩); have p233 : 0 ≤ (x8_4 : Int) := of_decide_eq_true (by first | (with_reducible assumption) | assumption); have q233 : x8_4 < (l0.length : Int) := of_decide_eq_true (by first | (with_reducible assumption) | assumption); obtain ⟨ad233, e233, hx233_0, hx233_1, hx233_2⟩ := at_T64 HR0.out x8_4 p233 q233; obtain rfl : ad231 = ad233 := (by injection e233); replace hx233_0 := hc24_ HB.out hx233_0; replace hx233_1 := hc24_ HB.out hx233_1; replace hx233_2 := hc24_ HB.out hx233_2; replace p233 := eq_true p233; replace q233 := eq_true q233) | (go_at_call 37; (with_reducible refine (semblanceref01_Put.calls kj28 ((rd_T64 l0 x8_4).f2) t234 _ A43.out).mono ?_); rintro e w' ⟨rfl, ⟨nd, rfl⟩⟩; (try first | exact ⟨rfl, _, World.drewN_drewN _ _ _⟩ | exact ⟨rfl, _, Eq.trans (World.drewN_drewN _ _ _) (congrArg (World.drewN _) (Nat.add_assoc _ _ _))⟩)))
             repeat (go_quiet (first | (go_at_call 37; (with_reducible refine (semblanceref01_Put.calls kj28 ((rd_T64 l0 x8_4).f1) t232 _ A40.out).mono ?_); rintro e w' ⟨rfl, ⟨nd, rfl⟩⟩; (try first | exact ⟨rfl, _, World.drewN_drewN _ _ _⟩ | exact ⟨rfl, _, Eq.trans (World.drewN_drewN _ _ _) (congrArg (World.drewN _) (Nat.add_assoc _ _ _))⟩); have p233 : 0 ≤ (x8_4 : Int) := of_decide_eq_true (by first | (with_reducible assumption) | assumption); have q233 : x8_4 < (l0.length : Int) := of_decide_eq_true (by first | (with_reducible assumption) | assumption); obtain ⟨ad233, e233, hx233_0, hx233_1, hx233_2⟩ := at_T64 HR0.out x8_4 p233 q233; obtain rfl : ad231 = ad233 := (by injection e233); replace hx233_0 := hc24_ HB.out hx233_0; replace hx233_1 := hc24_ HB.out hx233_1; replace hx233_2 := hc24_ HB.out hx233_2; replace p233 := eq_true p233; replace q233 := eq_true q233) | (go_at_call 37; (with_reducible refine (semblanceref01_Put.calls kj28 ((rd_T64 l0 x8_4).f2) t234 _ A43.out).mono ?_); rintro e w' ⟨rfl, ⟨nd, rfl⟩⟩; (try first | exact ⟨rfl, _, World.drewN_drewN _ _ _⟩ | exact ⟨rfl, _, Eq.trans (World.drewN_drewN _ _ _) (congrArg (World.drewN _) (Nat.add_assoc _ _ _))⟩))); try go_wp2_with (first | (go_at_call 37; (with_reducible refine (semblanceref01_Put.calls kj28 ((rd_T64 l0 x8_4).f1) t232 _ A40.out).mono ?_); rintro e w' ⟨rfl, ⟨nd, rfl⟩⟩; (try first | exact ⟨rfl, _, World.drewN_drewN _ _ _⟩ | exact ⟨rfl, _, Eq.trans (World.drewN_drewN _ _ _) (congrArg (World.drewN _) (Nat.add_assoc _ _ _))⟩); have p233 : 0 ≤ (x8_4 : Int) := of_decide_eq_true (by first | (with_reducible assumption) | assumption); have q233 : x8_4 < (l0.length : Int) := of_decide_eq_true (by first | (with_reducible assumption) | assumption); obtain ⟨ad233, e233, hx233_0, hx233_1, hx233_2⟩ := at_T64 HR0.out x8_4 p233 q233; obtain rfl : ad231 = ad233 := (by injection e233); replace hx233_0 := hc24_ HB.out hx233_0; replace hx233_1 := hc24_ HB.out hx233_1; replace hx233_2 := hc24_ HB.out hx233_2; replace p233 := eq_true p233; replace q233 := eq_true q233) | (go_at_call 37; (with_reducible refine (semblanceref01_Put.calls kj28 ((rd_T64 l0 x8_4).f2) t234 _ A43.out).mono ?_); rintro e w' ⟨rfl, ⟨nd, rfl⟩⟩; (try first | exact ⟨rfl, _, World.drewN_drewN _ _ _⟩ | exact ⟨rfl, _, Eq.trans (World.drewN_drewN _ _ _) (congrArg (World.drewN _) (Nat.add_assoc _ _ _))⟩))))
             go_roundg kj28
             case measure => have := HJ6.out; have := HJ10.out; have := HJ16.out; have := HK4.out; have := HJ25.out; have := HJ28.out; omega
             case rel => exact ⟨(wrap64 (x8_4 + 1)), rl_, H', ⟨by have := HJ6.out; have := HJ10.out; have := HJ16.out; have := HK4.out; have := HJ25.out; have := HJ28.out; omega⟩, ⟨by (with_reducible repeat (first | apply Kd.R_alloc | apply Kd.R_drewN | apply Kd.R_drew)); exact HO_5.out⟩, ⟨by (with_reducible repeat (first | apply Kd.R_alloc | apply Kd.R_drewN | apply Kd.R_drew)); exact HO_7.out⟩, ⟨bw_⟩⟩
end Go.Proofs.Ytbkaiojofgmbnaa.XL
