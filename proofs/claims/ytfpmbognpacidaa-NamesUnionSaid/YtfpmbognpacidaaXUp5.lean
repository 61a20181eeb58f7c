-- written by wip/xprint.py out of the translation
import Derived.Test.YtfpmbognpacidaaXUp0
import Derived.Test.YtfpmbognpacidaaXUp2
import Derived.Test.YtfpmbognpacidaaXUp3
import Derived.Test.YtfpmbognpacidaaXUp4
namespace Go.Proofs.Ytfpmbognpacidaa.XU
open Go.RowKit Go.Proofs.YtfpmbognpacidaaW.PrintWords Go.Proofs.YtfpmbognpacidaaW.PrintLast Go.Proofs.YtfpmbognpacidaaW.PrintMore
attribute [local go_sem] max2_int min2_int max_two min_two max_three min_three max_four min_four   -- for this text's walks alone
set_option linter.unusedVariables false
set_option linter.unusedSimpArgs false

/-! ### semblancelaw02_NamesUnion: function 8 -/
-- USES semblance/semblancelaw02.awake
-- USES semblance/semblancelaw02.long
-- USES semblance/semblanceref02.Union
-- USES semblance/semblanceref02.Place
-- USES semblance/semblanceref01.Texts
-- USES semblance/names.Union
def semblancelaw02_NamesUnion.rd (u : List ByteArray) (i : Nat) : ByteArray := rdOf ByteArray.empty u (i : Int)
/-- what the law's last loop finds at place i -/
def semblancelaw02_NamesUnion.Good (k : Nat) (a b u : List ByteArray) (i : Nat) : Prop :=
  (0 < i → Op.bytesLess (semblancelaw02_NamesUnion.rd u (i - 1)).toList (semblancelaw02_NamesUnion.rd u i).toList = true) ∧
  ((∃ p, semblanceref02_Place.f k a (semblancelaw02_NamesUnion.rd u i) = some p ∧ 0 ≤ p) ∨ (∃ p, semblanceref02_Place.f k a (semblancelaw02_NamesUnion.rd u i) = some p ∧ p < 0 ∧ ∃ q, semblanceref02_Place.f k b (semblancelaw02_NamesUnion.rd u i) = some q ∧ 0 ≤ q))
open Classical in
noncomputable def semblancelaw02_NamesUnion.f (k : Nat) (a b : List ByteArray) : Option Bool :=
  if semblancelaw02_awake.f k = some true then
    (if 60 < a.length then some true else if 60 < b.length then some true else
      (semblancelaw02_long.f k a 200).bind fun la => if la = true then some true else (semblancelaw02_long.f k b 200).bind fun lb => if lb = true then some true else
        (names_Union.f a b).bind fun u => (semblanceref02_Union.f k a b).bind fun x => (names_Union.f b a).bind fun y => (names_Union.f u u).bind fun z =>
          if semblanceref01_Texts.f k u x = some true ∧ semblanceref01_Texts.f k u y = some true ∧ semblanceref01_Texts.f k u z = some true ∧ (∀ i, i < u.length → semblancelaw02_NamesUnion.Good k a b u i) then some true else none)
  else none
theorem semblancelaw02_NamesUnion.dr_cell {w : World} {a : Addr} {v : Value} (h : w.cell? a = some v) : w.drew.cell? a = some v := h
theorem semblancelaw02_NamesUnion.drN_cell {w : World} {a : Addr} {v : Value} (h : w.cell? a = some v) (m : Nat) : (w.drewN m).cell? a = some v := h
set_option maxHeartbeats 8000000 in
set_option maxRecDepth 100000 in
theorem semblancelaw02_NamesUnion.calls (k : Nat) (A0 : Option Addr) (c0 : Nat) (l0 : List ByteArray) (A1 : Option Addr) (c1 : Nat) (l1 : List ByteArray) (r : Bool) (w : World) (hr0 : Kd.C Kd.string w A0 l0.length l0) (hc0 : l0.length ≤ c0) (hr1 : Kd.C Kd.string w A1 l1.length l1) (hc1 : l1.length ≤ c1) (h : semblancelaw02_NamesUnion.f k l0 l1 = some r) :
    Calls Try.prog 8 #[.slice A0 l0.length c0, .slice A1 l1.length c1] w fun e w' => e = .returned (.bool r) ∧ Below w.heap.size w w' := by
  have hm0 := hr0.2.1
  have hm1 := hr1.2.1
  have HR0 := Aside0.mk hr0
  have HR1 := Aside0.mk hr1
  clear hr0 hr1
  unfold semblancelaw02_NamesUnion.f at h
  by_cases ha : semblancelaw02_awake.f k = some true
  rotate_left
  · rw [if_neg ha] at h; cases h
  rw [if_pos ha] at h
  have HA := Aside0.mk ha
  clear ha
  by_cases g0 : 60 < l0.length
  · rw [if_pos g0] at h
    obtain rfl : true = r := Option.some.inj h
    have d1 : decide ((60 : Int) < (l0.length : Int)) = true := decide_eq_true (by omega)
    have d2 : decide (60 < l0.length) = true := decide_eq_true g0
    clear h
    go_enter Try.func8, Try.ntmps8
    go_wp2_with (go_at_call 29; refine (semblancelaw02_awake.calls k true _ HA.out).mono ?_; rintro e w' ⟨rfl, hb⟩)
    go_ret
    exact ⟨rfl, hb⟩
  rw [if_neg g0] at h
  by_cases g1 : 60 < l1.length
  · rw [if_pos g1] at h
    obtain rfl : true = r := Option.some.inj h
    have d1 : decide ((60 : Int) < (l1.length : Int)) = true := decide_eq_true (by omega)
    have d0 : decide ((60 : Int) < (l0.length : Int)) = false := decide_eq_false (by omega)
    have d0' : decide (60 < l0.length) = false := decide_eq_false g0
    have d2 : decide (60 < l1.length) = true := decide_eq_true g1
    clear h
    go_enter Try.func8, Try.ntmps8
    go_wp2_with (go_at_call 29; refine (semblancelaw02_awake.calls k true _ HA.out).mono ?_; rintro e w' ⟨rfl, hb⟩)
    go_ret
    exact ⟨rfl, hb⟩
  rw [if_neg g1] at h
  have e0 : decide ((60 : Int) < (l0.length : Int)) = false := decide_eq_false (by omega)
  have e0' : decide (60 < l0.length) = false := decide_eq_false g0
  have e1 : decide ((60 : Int) < (l1.length : Int)) = false := decide_eq_false (by omega)
  have e1' : decide (60 < l1.length) = false := decide_eq_false g1
  obtain ⟨la, hla, h1⟩ := Option.bind_eq_some_iff.mp h
  clear h
  have HLA := Aside0.mk hla
  clear hla
  cases la with
  | true =>
    rw [if_pos rfl] at h1
    obtain rfl : true = r := Option.some.inj h1
    clear h1
    go_enter Try.func8, Try.ntmps8
    go_wp2_with (first | (go_at_call 35; (with_reducible refine (semblancelaw02_long.calls k A0 c0 l0 200 _ _ HR0.out hc0 HLA.out).mono ?_); rintro e w' ⟨rfl, ⟨m, rfl⟩⟩) | (go_at_call 29; refine (semblancelaw02_awake.calls k true _ HA.out).mono ?_; rintro e w' ⟨rfl, hb⟩))
    go_ret
    exact ⟨rfl, below_then (pw_below_drewN (Below.refl w.heap.size w) m) (pw_below_drewN (Below.refl w.heap.size w) m).size hb⟩
  | false =>
    rw [if_neg (by simp)] at h1
    obtain ⟨lb, hlb, h2⟩ := Option.bind_eq_some_iff.mp h1
    clear h1
    have HLB := Aside0.mk hlb
    clear hlb
    cases lb with
    | true =>
      rw [if_pos rfl] at h2
      obtain rfl : true = r := Option.some.inj h2
      clear h2
      go_enter Try.func8, Try.ntmps8
      go_wp2_with (go_at_call 35; (with_reducible refine (semblancelaw02_long.calls k A0 c0 l0 200 _ _ HR0.out hc0 HLA.out).mono ?_); rintro e w' ⟨rfl, ⟨m, rfl⟩⟩)
      refine (semblancelaw02_long.calls k A1 c1 l1 200 _ _ (Kd.C_drewN HR1.out m) hc1 HLB.out).mono ?_
      rintro e w' ⟨rfl, ⟨m2, rfl⟩⟩
      have HBD := Aside0.mk (pw_below_drewN (Below.refl w.heap.size w) (m + m2))
      go_wp2_with (go_at_call 29; refine (semblancelaw02_awake.calls k true _ HA.out).mono ?_; rintro e w' ⟨rfl, hb⟩)
      go_ret
      exact ⟨rfl, below_then HBD.out HBD.out.size hb⟩
    | false =>
      rw [if_neg (by simp)] at h2
      obtain ⟨u, hu, h3⟩ := Option.bind_eq_some_iff.mp h2
      obtain ⟨x, hx, h4⟩ := Option.bind_eq_some_iff.mp h3
      obtain ⟨y, hy, h5⟩ := Option.bind_eq_some_iff.mp h4
      obtain ⟨z, hz, h6⟩ := Option.bind_eq_some_iff.mp h5
      clear h2 h3 h4 h5
      split at h6
      case isFalse => cases h6
      case isTrue hc =>
      obtain ⟨t1, t2, t3, hgood⟩ := hc
      obtain rfl : true = r := Option.some.inj h6
      clear h6
      have HU := Aside0.mk hu
      have HX := Aside0.mk hx
      have HY := Aside0.mk hy
      have HZ := Aside0.mk hz
      have T1 := Aside0.mk t1
      have T2 := Aside0.mk t2
      have T3 := Aside0.mk t3
      have HGOOD := Aside0.mk hgood
      clear hu hx hy hz t1 t2 t3 hgood
      go_enter Try.func8, Try.ntmps8
      go_wp2_with (go_at_call 35; (with_reducible refine (semblancelaw02_long.calls k A0 c0 l0 200 _ _ HR0.out hc0 HLA.out).mono ?_); rintro e w' ⟨rfl, ⟨m, rfl⟩⟩)
      refine (semblancelaw02_long.calls k A1 c1 l1 200 _ _ (Kd.C_drewN HR1.out m) hc1 HLB.out).mono ?_
      rintro e w' ⟨rfl, ⟨m2, rfl⟩⟩
      have HB0 := Aside0.mk (pw_below_drewN (pw_below_drewN (Below.refl w.heap.size w) m) m2)
      have HC0 := Aside0.mk (Kd.C_drewN (Kd.C_drewN HR0.out m) m2)
      have HC1 := Aside0.mk (Kd.C_drewN (Kd.C_drewN HR1.out m) m2)
      generalize (w.drewN m).drewN m2 = w0 at *
      go_wp2_with fail
      refine (names_Union.calls A0 c0 l0 A1 c1 l1 u _ HC0.out hc0 HC1.out hc1 HU.out).mono ?_
      rintro e w1 ⟨vu, rfl, ho, hb⟩
      obtain ⟨Au, cu, rfl, hlu, hcu'⟩ := Kd.R_reads ho
      have HCU := Aside0.mk hcu'
      clear ho hcu'
      have HB1 := Aside0.mk (below_then HB0.out HB0.out.size hb)
      have HC0_ := Aside0.mk (Kd.C_below HC0.out hb)
      have HC1_ := Aside0.mk (Kd.C_below HC1.out hb)
      clear hb HB0 HC0 HC1
      have HC0 := HC0_
      clear HC0_
      have HC1 := HC1_
      clear HC1_
      go_wp2_with fail
      refine (semblanceref02_Union.calls k A0 c0 l0 A1 c1 l1 x _ HC0.out hc0 HC1.out hc1 HX.out).mono ?_
      rintro e w2 ⟨vx, rfl, ho, hb⟩
      obtain ⟨Ax, cx, rfl, hlx, hcx'⟩ := Kd.R_reads ho
      have HCX := Aside0.mk hcx'
      clear ho hcx'
      have HB2 := Aside0.mk (below_then HB1.out HB1.out.size hb)
      have HC0_ := Aside0.mk (Kd.C_below HC0.out hb)
      have HC1_ := Aside0.mk (Kd.C_below HC1.out hb)
      have HCU_ := Aside0.mk (Kd.C_below HCU.out hb)
      clear hb HB1 HC0 HC1 HCU
      have HC0 := HC0_
      clear HC0_
      have HC1 := HC1_
      clear HC1_
      have HCU := HCU_
      clear HCU_
      go_wp2_with fail
      refine (semblanceref01_Texts.calls k Au cu u Ax cx x true _ HCU.out hlu HCX.out hlx T1.out).mono ?_
      rintro e w3 ⟨rfl, hb⟩
      have HB3 := Aside0.mk (below_then HB2.out HB2.out.size hb.below)
      have HC0_ := Aside0.mk (Kd.C_below HC0.out hb.below)
      have HC1_ := Aside0.mk (Kd.C_below HC1.out hb.below)
      have HCU_ := Aside0.mk (Kd.C_below HCU.out hb.below)
      clear hb HB2 HC0 HC1 HCU
      have HC0 := HC0_
      clear HC0_
      have HC1 := HC1_
      clear HC1_
      have HCU := HCU_
      clear HCU_
      clear HCX
      go_wp2_with fail
      refine (names_Union.calls A1 c1 l1 A0 c0 l0 y _ HC1.out hc1 HC0.out hc0 HY.out).mono ?_
      rintro e w4 ⟨vy, rfl, ho, hb⟩
      obtain ⟨Ay, cy, rfl, hly, hcy'⟩ := Kd.R_reads ho
      have HCY := Aside0.mk hcy'
      clear ho hcy'
      have HB4 := Aside0.mk (below_then HB3.out HB3.out.size hb)
      have HC0_ := Aside0.mk (Kd.C_below HC0.out hb)
      have HC1_ := Aside0.mk (Kd.C_below HC1.out hb)
      have HCU_ := Aside0.mk (Kd.C_below HCU.out hb)
      clear hb HB3 HC0 HC1 HCU
      have HC0 := HC0_
      clear HC0_
      have HC1 := HC1_
      clear HC1_
      have HCU := HCU_
      clear HCU_
      go_wp2_with fail
      refine (semblanceref01_Texts.calls k Au cu u Ay cy y true _ HCU.out hlu HCY.out hly T2.out).mono ?_
      rintro e w5 ⟨rfl, hb⟩
      have HB5 := Aside0.mk (below_then HB4.out HB4.out.size hb.below)
      have HC0_ := Aside0.mk (Kd.C_below HC0.out hb.below)
      have HC1_ := Aside0.mk (Kd.C_below HC1.out hb.below)
      have HCU_ := Aside0.mk (Kd.C_below HCU.out hb.below)
      clear hb HB4 HC0 HC1 HCU
      have HC0 := HC0_
      clear HC0_
      have HC1 := HC1_
      clear HC1_
      have HCU := HCU_
      clear HCU_
      clear HCY
      go_wp2_with fail
      refine (names_Union.calls Au cu u Au cu u z _ HCU.out hlu HCU.out hlu HZ.out).mono ?_
      rintro e w6 ⟨vz, rfl, ho, hb⟩
      obtain ⟨Az, cz, rfl, hlz, hcz'⟩ := Kd.R_reads ho
      have HCZ := Aside0.mk hcz'
      clear ho hcz'
      have HB6 := Aside0.mk (below_then HB5.out HB5.out.size hb)
      have HC0_ := Aside0.mk (Kd.C_below HC0.out hb)
      have HC1_ := Aside0.mk (Kd.C_below HC1.out hb)
      have HCU_ := Aside0.mk (Kd.C_below HCU.out hb)
      clear hb HB5 HC0 HC1 HCU
      have HC0 := HC0_
      clear HC0_
      have HC1 := HC1_
      clear HC1_
      have HCU := HCU_
      clear HCU_
      go_wp2_with fail
      refine (semblanceref01_Texts.calls k Au cu u Az cz z true _ HCU.out hlu HCZ.out hlz T3.out).mono ?_
      rintro e w7 ⟨rfl, hb⟩
      have HB7 := Aside0.mk (below_then HB6.out HB6.out.size hb.below)
      have HC0_ := Aside0.mk (Kd.C_below HC0.out hb.below)
      have HC1_ := Aside0.mk (Kd.C_below HC1.out hb.below)
      have HCU_ := Aside0.mk (Kd.C_below HCU.out hb.below)
      clear hb HB6 HC0 HC1 HCU
      have HC0 := HC0_
      clear HC0_
      have HC1 := HC1_
      clear HC1_
      have HCU := HCU_
      clear HCU_
      clear HCZ
      have hul := HCU.out.2.1
      go_wp2_with fail
      go_loopg [6] u.length (fun kq v6 wr' => ∃ (wr : World) (i : Nat), wr = wr' ∧ Aside0 (u.length - i = kq) ∧ Aside0 (i ≤ u.length) ∧ v6 = .int .i64 (i : Int) ∧ Aside0 (Kd.C Kd.string wr A0 l0.length l0) ∧ Aside0 (Kd.C Kd.string wr A1 l1.length l1) ∧ Aside0 (Kd.C Kd.string wr Au u.length u) ∧ Aside0 (Below w.heap.size w wr))
      case atStart => exact ⟨_, 0, rfl, ⟨rfl⟩, ⟨Nat.zero_le _⟩, rfl, HC0, HC1, HCU, HB7⟩
      case round =>
        clear HC0 HC1 HCU HB7
        obtain ⟨wr, i, rfl, HK, HI, rfl, HC0, HC1, HCU, HB⟩ := hrel
        by_cases hi : i < u.length
        rotate_left
        · have hlt : decide ((i : Int) < (u.length : Int)) = false := decide_eq_false (by omega)
          go_wp2_with (go_at_call 29; refine (semblancelaw02_awake.calls k true _ HA.out).mono ?_; rintro e w' ⟨rfl, hb⟩)
          go_ret
          exact ⟨rfl, below_then HB.out HB.out.size hb⟩
        have hlt : decide ((i : Int) < (u.length : Int)) = true := decide_eq_true (by omega)
        obtain ⟨hg1, hg2⟩ := HGOOD.out i hi
        have HG1 := Aside0.mk hg1
        have HG2 := Aside0.mk hg2
        clear hg1 hg2
        obtain ⟨ad, ea, hx0⟩ := Kd.at_string HCU.out (i : Int) (by omega) (by omega)
        subst ea
        rw [Int.toNat_natCast] at hx0
        cases i with
        | zero =>
          change wr.cell? ad = some (.string (semblancelaw02_NamesUnion.rd u 0)) at hx0
          generalize semblancelaw02_NamesUnion.rd u 0 = xi at *
          have hXI := Aside0.mk hx0
          clear hx0 HG1
          have hz1 : (0 : Int) < (u.length : Int) := by omega
          rcases HG2.out with ⟨p, hp, hp0⟩ | ⟨p, hp, hp0, q, hq, hq0⟩
          · have HP := Aside0.mk hp
            have dp : decide (p < 0) = false := decide_eq_false (by omega)
            clear hp
            as_aux_lemma =>
            go_wp2_with fail
            refine wp_region_held_drew (S := fun w' => w'.cell? ad = some (.string xi)) (by kernel_rfl) (by exact (by repeat (first | (with_reducible exact hXI.out) | (with_reducible apply semblancelaw02_NamesUnion.dr_cell) | (with_reducible apply semblancelaw02_NamesUnion.drN_cell)))) (fun hHeld => ?_)
            refine wpAnyH_take (i := 0) (oi := { dst := some 55, op := Go.Op.move (Go.Operand.tmp 6), type := 3, pos := "law.go:60", after := #[], guard := none }) (v := ?_) rfl (by kernel_rfl) (by kernel_rfl) (by kernel_rfl) (fun _ _ _ h => h) (Or.inl ⟨by rfl, ?hy0⟩) (by assumption) ?_
            case hy0 => intro w_ hSw; (try dsimp only at hSw); (try (have hSw1 := hSw.1; have hSw2 := hSw.2; clear hSw)); go_simp; all_goals (with_reducible rfl)
            (try simp only [Act.put, List.setIfInBounds_toArray, List.set_cons_zero, List.set_cons_succ])
            refine wpAnyH_take (i := 1) (oi := { dst := some 56, op := Go.Op.binOp Go.BinOp.gtr 3 (Go.Operand.tmp 55) (Go.Operand.const (Go.Value.int Go.IntKind.i64 0)) 3, type := 4, pos := "law.go:60", after := #[{ on := 0, ground := Go.Ground.data }], guard := none }) (v := ?_) rfl (by kernel_rfl) (by kernel_rfl) (by kernel_rfl) (fun _ _ _ h => h) (Or.inl ⟨by rfl, ?hy1⟩) (by assumption) ?_
            case hy1 => intro w_ hSw; (try dsimp only at hSw); (try (have hSw1 := hSw.1; have hSw2 := hSw.2; clear hSw)); go_simp; all_goals (with_reducible rfl)
            (try simp only [Act.put, List.setIfInBounds_toArray, List.set_cons_zero, List.set_cons_succ])
            refine wpAnyH_take (i := 2) (oi := { dst := some 57, op := Go.Op.move (Go.Operand.tmp 56), type := 4, pos := "law.go:60", after := #[{ on := 1, ground := Go.Ground.data }], guard := none }) (v := ?_) rfl (by kernel_rfl) (by kernel_rfl) (by kernel_rfl) (fun _ _ _ h => h) (Or.inl ⟨by rfl, ?hy2⟩) (by assumption) ?_
            case hy2 => intro w_ hSw; (try dsimp only at hSw); (try (have hSw1 := hSw.1; have hSw2 := hSw.2; clear hSw)); go_simp; all_goals (with_reducible rfl)
            (try simp only [Act.put, List.setIfInBounds_toArray, List.set_cons_zero, List.set_cons_succ])
            refine wpAnyH_take (i := 3) (oi := { dst := some 58, op := Go.Op.move (Go.Operand.tmp 5), type := 22, pos := "law.go:60", after := #[{ on := 2, ground := Go.Ground.guard }], guard := some (2, true) }) (v := undef) rfl (by kernel_rfl) (by kernel_rfl) (by kernel_rfl) (fun _ _ _ h => h) (Or.inr ⟨by rfl, rfl⟩) (by assumption) ?_
            (try simp only [Act.put, List.setIfInBounds_toArray, List.set_cons_zero, List.set_cons_succ])
            refine wpAnyH_take (i := 4) (oi := { dst := some 59, op := Go.Op.move (Go.Operand.tmp 6), type := 3, pos := "law.go:60", after := #[{ on := 2, ground := Go.Ground.guard }], guard := some (2, true) }) (v := undef) rfl (by kernel_rfl) (by kernel_rfl) (by kernel_rfl) (fun _ _ _ h => h) (Or.inr ⟨by rfl, rfl⟩) (by assumption) ?_
            (try simp only [Act.put, List.setIfInBounds_toArray, List.set_cons_zero, List.set_cons_succ])
            refine wpAnyH_take (i := 5) (oi := { dst := some 60, op := Go.Op.binOp Go.BinOp.sub 3 (Go.Operand.tmp 59) (Go.Operand.const (Go.Value.int Go.IntKind.i64 1)) 3, type := 3, pos := "law.go:60", after := #[{ on := 4, ground := Go.Ground.data }, { on := 2, ground := Go.Ground.guard }], guard := some (2, true) }) (v := undef) rfl (by kernel_rfl) (by kernel_rfl) (by kernel_rfl) (fun _ _ _ h => h) (Or.inr ⟨by rfl, rfl⟩) (by assumption) ?_
            (try simp only [Act.put, List.setIfInBounds_toArray, List.set_cons_zero, List.set_cons_succ])
            refine wpAnyH_take (i := 6) (oi := { dst := some 61, op := Go.Op.indexAddr 22 (Go.Operand.tmp 58) (Go.Operand.tmp 60), type := 0, pos := "law.go:60", after := #[{ on := 3, ground := Go.Ground.data }, { on := 5, ground := Go.Ground.data }, { on := 2, ground := Go.Ground.guard }], guard := some (2, true) }) (v := undef) rfl (by kernel_rfl) (by kernel_rfl) (by kernel_rfl) (fun _ _ _ h => h) (Or.inr ⟨by rfl, rfl⟩) (by assumption) ?_
            (try simp only [Act.put, List.setIfInBounds_toArray, List.set_cons_zero, List.set_cons_succ])
            refine wpAnyH_take (i := 7) (oi := { dst := some 62, op := Go.Op.load 9 (Go.Operand.tmp 61), type := 9, pos := "law.go:60", after := #[{ on := 6, ground := Go.Ground.data }, { on := 2, ground := Go.Ground.guard }], guard := some (2, true) }) (v := undef) rfl (by kernel_rfl) (by kernel_rfl) (by kernel_rfl) (fun _ _ _ h => h) (Or.inr ⟨by rfl, rfl⟩) (by assumption) ?_
            (try simp only [Act.put, List.setIfInBounds_toArray, List.set_cons_zero, List.set_cons_succ])
            refine wpAnyH_take (i := 8) (oi := { dst := some 63, op := Go.Op.move (Go.Operand.tmp 5), type := 22, pos := "law.go:60", after := #[{ on := 2, ground := Go.Ground.guard }], guard := some (2, true) }) (v := undef) rfl (by kernel_rfl) (by kernel_rfl) (by kernel_rfl) (fun _ _ _ h => h) (Or.inr ⟨by rfl, rfl⟩) (by assumption) ?_
            (try simp only [Act.put, List.setIfInBounds_toArray, List.set_cons_zero, List.set_cons_succ])
            refine wpAnyH_take (i := 9) (oi := { dst := some 64, op := Go.Op.move (Go.Operand.tmp 6), type := 3, pos := "law.go:60", after := #[{ on := 2, ground := Go.Ground.guard }], guard := some (2, true) }) (v := undef) rfl (by kernel_rfl) (by kernel_rfl) (by kernel_rfl) (fun _ _ _ h => h) (Or.inr ⟨by rfl, rfl⟩) (by assumption) ?_
            (try simp only [Act.put, List.setIfInBounds_toArray, List.set_cons_zero, List.set_cons_succ])
            refine wpAnyH_take (i := 10) (oi := { dst := some 65, op := Go.Op.indexAddr 22 (Go.Operand.tmp 63) (Go.Operand.tmp 64), type := 0, pos := "law.go:60", after := #[{ on := 8, ground := Go.Ground.data }, { on := 9, ground := Go.Ground.data }, { on := 2, ground := Go.Ground.guard }], guard := some (2, true) }) (v := undef) rfl (by kernel_rfl) (by kernel_rfl) (by kernel_rfl) (fun _ _ _ h => h) (Or.inr ⟨by rfl, rfl⟩) (by assumption) ?_
            (try simp only [Act.put, List.setIfInBounds_toArray, List.set_cons_zero, List.set_cons_succ])
            refine wpAnyH_take (i := 11) (oi := { dst := some 66, op := Go.Op.load 9 (Go.Operand.tmp 65), type := 9, pos := "law.go:60", after := #[{ on := 10, ground := Go.Ground.data }, { on := 2, ground := Go.Ground.guard }], guard := some (2, true) }) (v := undef) rfl (by kernel_rfl) (by kernel_rfl) (by kernel_rfl) (fun _ _ _ h => h) (Or.inr ⟨by rfl, rfl⟩) (by assumption) ?_
            (try simp only [Act.put, List.setIfInBounds_toArray, List.set_cons_zero, List.set_cons_succ])
            refine wpAnyH_take (i := 12) (oi := { dst := some 67, op := Go.Op.binOp Go.BinOp.geq 9 (Go.Operand.tmp 62) (Go.Operand.tmp 66) 9, type := 4, pos := "law.go:60", after := #[{ on := 7, ground := Go.Ground.data }, { on := 11, ground := Go.Ground.data }, { on := 2, ground := Go.Ground.guard }], guard := some (2, true) }) (v := undef) rfl (by kernel_rfl) (by kernel_rfl) (by kernel_rfl) (fun _ _ _ h => h) (Or.inr ⟨by rfl, rfl⟩) (by assumption) ?_
            (try simp only [Act.put, List.setIfInBounds_toArray, List.set_cons_zero, List.set_cons_succ])
            refine wpAnyH_take (i := 13) (oi := { dst := some 68, op := Go.Op.pick (Go.Operand.tmp 57) (Go.Operand.tmp 67) (Go.Operand.const (Go.Value.bool false)), type := 4, pos := "law.go:60", after := #[{ on := 2, ground := Go.Ground.data }, { on := 12, ground := Go.Ground.data }], guard := none }) (v := ?_) rfl (by kernel_rfl) (by kernel_rfl) (by kernel_rfl) (fun _ _ _ h => h) (Or.inl ⟨by rfl, ?hy13⟩) (by assumption) ?_
            case hy13 => intro w_ hSw; (try dsimp only at hSw); (try (have hSw1 := hSw.1; have hSw2 := hSw.2; clear hSw)); go_simp; all_goals (with_reducible rfl)
            (try simp only [Act.put, List.setIfInBounds_toArray, List.set_cons_zero, List.set_cons_succ])
            refine wpAnyH_take (i := 14) (oi := { dst := some 69, op := Go.Op.move (Go.Operand.tmp 68), type := 4, pos := "law.go:60", after := #[{ on := 13, ground := Go.Ground.data }, { on := 2, ground := Go.Ground.chain }], guard := none }) (v := ?_) rfl (by kernel_rfl) (by kernel_rfl) (by kernel_rfl) (fun _ _ _ h => h) (Or.inl ⟨by rfl, ?hy14⟩) (by assumption) ?_
            case hy14 => intro w_ hSw; (try dsimp only at hSw); (try (have hSw1 := hSw.1; have hSw2 := hSw.2; clear hSw)); go_simp; all_goals (with_reducible rfl)
            (try simp only [Act.put, List.setIfInBounds_toArray, List.set_cons_zero, List.set_cons_succ])
            refine wpAnyH_take (i := 15) (oi := { dst := some 70, op := Go.Op.move (Go.Operand.tmp 0), type := 22, pos := "law.go:60", after := #[{ on := 14, ground := Go.Ground.guard }], guard := some (14, false) }) (v := ?_) rfl (by kernel_rfl) (by kernel_rfl) (by kernel_rfl) (fun _ _ _ h => h) (Or.inl ⟨by rfl, ?hy15⟩) (by assumption) ?_
            case hy15 => intro w_ hSw; (try dsimp only at hSw); (try (have hSw1 := hSw.1; have hSw2 := hSw.2; clear hSw)); go_simp; all_goals (with_reducible rfl)
            (try simp only [Act.put, List.setIfInBounds_toArray, List.set_cons_zero, List.set_cons_succ])
            refine wpAnyH_take (i := 16) (oi := { dst := some 71, op := Go.Op.move (Go.Operand.tmp 5), type := 22, pos := "law.go:60", after := #[{ on := 14, ground := Go.Ground.guard }], guard := some (14, false) }) (v := ?_) rfl (by kernel_rfl) (by kernel_rfl) (by kernel_rfl) (fun _ _ _ h => h) (Or.inl ⟨by rfl, ?hy16⟩) (by assumption) ?_
            case hy16 => intro w_ hSw; (try dsimp only at hSw); (try (have hSw1 := hSw.1; have hSw2 := hSw.2; clear hSw)); go_simp; all_goals (with_reducible rfl)
            (try simp only [Act.put, List.setIfInBounds_toArray, List.set_cons_zero, List.set_cons_succ])
            refine wpAnyH_take (i := 17) (oi := { dst := some 72, op := Go.Op.move (Go.Operand.tmp 6), type := 3, pos := "law.go:60", after := #[{ on := 14, ground := Go.Ground.guard }], guard := some (14, false) }) (v := ?_) rfl (by kernel_rfl) (by kernel_rfl) (by kernel_rfl) (fun _ _ _ h => h) (Or.inl ⟨by rfl, ?hy17⟩) (by assumption) ?_
            case hy17 => intro w_ hSw; (try dsimp only at hSw); (try (have hSw1 := hSw.1; have hSw2 := hSw.2; clear hSw)); go_simp; all_goals (with_reducible rfl)
            (try simp only [Act.put, List.setIfInBounds_toArray, List.set_cons_zero, List.set_cons_succ])
            refine wpAnyH_take (i := 18) (oi := { dst := some 73, op := Go.Op.indexAddr 22 (Go.Operand.tmp 71) (Go.Operand.tmp 72), type := 0, pos := "law.go:60", after := #[{ on := 16, ground := Go.Ground.data }, { on := 17, ground := Go.Ground.data }, { on := 14, ground := Go.Ground.guard }], guard := some (14, false) }) (v := ?_) rfl (by kernel_rfl) (by kernel_rfl) (by kernel_rfl) (fun _ _ _ h => h) (Or.inl ⟨by rfl, ?hy18⟩) (by assumption) ?_
            case hy18 => intro w_ hSw; (try dsimp only at hSw); (try (have hSw1 := hSw.1; have hSw2 := hSw.2; clear hSw)); go_simp; all_goals (with_reducible rfl)
            (try simp only [Act.put, List.setIfInBounds_toArray, List.set_cons_zero, List.set_cons_succ])
            refine wpAnyH_take (i := 19) (oi := { dst := some 74, op := Go.Op.load 9 (Go.Operand.tmp 73), type := 9, pos := "law.go:60", after := #[{ on := 18, ground := Go.Ground.data }, { on := 14, ground := Go.Ground.guard }], guard := some (14, false) }) (v := ?_) rfl (by kernel_rfl) (by kernel_rfl) (by kernel_rfl) (fun _ _ _ h => h) (Or.inl ⟨by rfl, ?hy19⟩) (by assumption) ?_
            case hy19 => intro w_ hSw; (try dsimp only at hSw); (try (have hSw1 := hSw.1; have hSw2 := hSw.2; clear hSw)); go_simp; all_goals (with_reducible rfl)
            (try simp only [Act.put, List.setIfInBounds_toArray, List.set_cons_zero, List.set_cons_succ])
            refine wpAnyH_ready (rs := [20]) (by kernel_rfl) (by simp) ?_
            refine AllReadyH.cons (o := { dst := some 75, op := Go.Op.call { callee := Go.Callee.value (Go.Operand.func 30), args := #[Go.Operand.tmp 70, Go.Operand.tmp 74], argTypes := #[22, 9] }, type := 3, pos := "law.go:60", after := #[{ on := 15, ground := Go.Ground.data }, { on := 19, ground := Go.Ground.data }, { on := 14, ground := Go.Ground.chain }, { on := 14, ground := Go.Ground.guard }], guard := some (14, false) }) rfl (fun K hK => ?_) AllReadyH.nil
            go_simp
            go_at_call 30
            ((with_reducible refine (semblanceref02_Place.calls k A0 c0 l0 xi p _ (by repeat (first | exact HC0.out | apply Kd.C_drew | apply Kd.C_drewN)) hc0 HP.out).mono ?_); rintro e w' ⟨rfl, ⟨m3, rfl⟩⟩)
            (try go_wp2_with fail)
            refine hK.out _ _ (by (try dsimp only); exact (by repeat (first | (with_reducible exact hXI.out) | (with_reducible apply semblancelaw02_NamesUnion.dr_cell) | (with_reducible apply semblancelaw02_NamesUnion.drN_cell)))) (fun hHeld2 => ?_)
            clear hK K hHeld
            have hHeld := hHeld2
            clear hHeld2
            (try simp only [Act.put, List.setIfInBounds_toArray, List.set_cons_zero, List.set_cons_succ])
            refine wpAnyH_take (i := 21) (oi := { dst := some 76, op := Go.Op.binOp Go.BinOp.lss 3 (Go.Operand.tmp 75) (Go.Operand.const (Go.Value.int Go.IntKind.i64 0)) 3, type := 4, pos := "law.go:60", after := #[{ on := 20, ground := Go.Ground.data }, { on := 14, ground := Go.Ground.guard }], guard := some (14, false) }) (v := ?_) rfl (by kernel_rfl) (by kernel_rfl) (by kernel_rfl) (fun _ _ _ h => h) (Or.inl ⟨by rfl, ?hy21⟩) (by assumption) ?_
            case hy21 => intro w_ hSw; (try dsimp only at hSw); (try (have hSw1 := hSw.1; have hSw2 := hSw.2; clear hSw)); go_simp; all_goals (with_reducible rfl)
            (try simp only [Act.put, List.setIfInBounds_toArray, List.set_cons_zero, List.set_cons_succ])
            refine wpAnyH_take (i := 22) (oi := { dst := some 77, op := Go.Op.move (Go.Operand.tmp 76), type := 4, pos := "law.go:60", after := #[{ on := 21, ground := Go.Ground.data }, { on := 20, ground := Go.Ground.chain }, { on := 14, ground := Go.Ground.guard }], guard := some (14, false) }) (v := ?_) rfl (by kernel_rfl) (by kernel_rfl) (by kernel_rfl) (fun _ _ _ h => h) (Or.inl ⟨by rfl, ?hy22⟩) (by assumption) ?_
            case hy22 => intro w_ hSw; (try dsimp only at hSw); (try (have hSw1 := hSw.1; have hSw2 := hSw.2; clear hSw)); go_simp; all_goals (with_reducible rfl)
            (try simp only [Act.put, List.setIfInBounds_toArray, List.set_cons_zero, List.set_cons_succ])
            refine wpAnyH_take (i := 23) (oi := { dst := some 78, op := Go.Op.move (Go.Operand.tmp 1), type := 22, pos := "law.go:60", after := #[{ on := 22, ground := Go.Ground.guard }], guard := some (22, true) }) (v := undef) rfl (by kernel_rfl) (by kernel_rfl) (by kernel_rfl) (fun _ _ _ h => h) (Or.inr ⟨by rfl, rfl⟩) (by assumption) ?_
            (try simp only [Act.put, List.setIfInBounds_toArray, List.set_cons_zero, List.set_cons_succ])
            refine wpAnyH_take (i := 24) (oi := { dst := some 79, op := Go.Op.move (Go.Operand.tmp 5), type := 22, pos := "law.go:60", after := #[{ on := 22, ground := Go.Ground.guard }], guard := some (22, true) }) (v := undef) rfl (by kernel_rfl) (by kernel_rfl) (by kernel_rfl) (fun _ _ _ h => h) (Or.inr ⟨by rfl, rfl⟩) (by assumption) ?_
            (try simp only [Act.put, List.setIfInBounds_toArray, List.set_cons_zero, List.set_cons_succ])
            refine wpAnyH_take (i := 25) (oi := { dst := some 80, op := Go.Op.move (Go.Operand.tmp 6), type := 3, pos := "law.go:60", after := #[{ on := 22, ground := Go.Ground.guard }], guard := some (22, true) }) (v := undef) rfl (by kernel_rfl) (by kernel_rfl) (by kernel_rfl) (fun _ _ _ h => h) (Or.inr ⟨by rfl, rfl⟩) (by assumption) ?_
            (try simp only [Act.put, List.setIfInBounds_toArray, List.set_cons_zero, List.set_cons_succ])
            refine wpAnyH_take (i := 26) (oi := { dst := some 81, op := Go.Op.indexAddr 22 (Go.Operand.tmp 79) (Go.Operand.tmp 80), type := 0, pos := "law.go:60", after := #[{ on := 24, ground := Go.Ground.data }, { on := 25, ground := Go.Ground.data }, { on := 22, ground := Go.Ground.guard }], guard := some (22, true) }) (v := undef) rfl (by kernel_rfl) (by kernel_rfl) (by kernel_rfl) (fun _ _ _ h => h) (Or.inr ⟨by rfl, rfl⟩) (by assumption) ?_
            (try simp only [Act.put, List.setIfInBounds_toArray, List.set_cons_zero, List.set_cons_succ])
            refine wpAnyH_take (i := 27) (oi := { dst := some 82, op := Go.Op.load 9 (Go.Operand.tmp 81), type := 9, pos := "law.go:60", after := #[{ on := 26, ground := Go.Ground.data }, { on := 22, ground := Go.Ground.guard }], guard := some (22, true) }) (v := undef) rfl (by kernel_rfl) (by kernel_rfl) (by kernel_rfl) (fun _ _ _ h => h) (Or.inr ⟨by rfl, rfl⟩) (by assumption) ?_
            (try simp only [Act.put, List.setIfInBounds_toArray, List.set_cons_zero, List.set_cons_succ])
            refine wpAnyH_take (i := 28) (oi := { dst := some 83, op := Go.Op.call { callee := Go.Callee.value (Go.Operand.func 30), args := #[Go.Operand.tmp 78, Go.Operand.tmp 82], argTypes := #[22, 9] }, type := 3, pos := "law.go:60", after := #[{ on := 23, ground := Go.Ground.data }, { on := 27, ground := Go.Ground.data }, { on := 22, ground := Go.Ground.chain }, { on := 22, ground := Go.Ground.guard }], guard := some (22, true) }) (v := undef) rfl (by kernel_rfl) (by kernel_rfl) (by kernel_rfl) (fun _ _ _ h => h) (Or.inr ⟨by rfl, rfl⟩) (by assumption) ?_
            (try simp only [Act.put, List.setIfInBounds_toArray, List.set_cons_zero, List.set_cons_succ])
            refine wpAnyH_take (i := 29) (oi := { dst := some 84, op := Go.Op.binOp Go.BinOp.lss 3 (Go.Operand.tmp 83) (Go.Operand.const (Go.Value.int Go.IntKind.i64 0)) 3, type := 4, pos := "law.go:60", after := #[{ on := 28, ground := Go.Ground.data }, { on := 22, ground := Go.Ground.guard }], guard := some (22, true) }) (v := undef) rfl (by kernel_rfl) (by kernel_rfl) (by kernel_rfl) (fun _ _ _ h => h) (Or.inr ⟨by rfl, rfl⟩) (by assumption) ?_
            (try simp only [Act.put, List.setIfInBounds_toArray, List.set_cons_zero, List.set_cons_succ])
            refine wpAnyH_take (i := 30) (oi := { dst := some 85, op := Go.Op.pick (Go.Operand.tmp 77) (Go.Operand.tmp 84) (Go.Operand.const (Go.Value.bool false)), type := 4, pos := "law.go:60", after := #[{ on := 22, ground := Go.Ground.data }, { on := 29, ground := Go.Ground.data }, { on := 14, ground := Go.Ground.guard }], guard := some (14, false) }) (v := ?_) rfl (by kernel_rfl) (by kernel_rfl) (by kernel_rfl) (fun _ _ _ h => h) (Or.inl ⟨by rfl, ?hy30⟩) (by assumption) ?_
            case hy30 => intro w_ hSw; (try dsimp only at hSw); (try (have hSw1 := hSw.1; have hSw2 := hSw.2; clear hSw)); go_simp; all_goals (with_reducible rfl)
            (try simp only [Act.put, List.setIfInBounds_toArray, List.set_cons_zero, List.set_cons_succ])
            refine wpAnyH_take (i := 31) (oi := { dst := some 86, op := Go.Op.pick (Go.Operand.tmp 69) (Go.Operand.const (Go.Value.bool true)) (Go.Operand.tmp 85), type := 4, pos := "law.go:60", after := #[{ on := 14, ground := Go.Ground.data }, { on := 30, ground := Go.Ground.data }], guard := none }) (v := ?_) rfl (by kernel_rfl) (by kernel_rfl) (by kernel_rfl) (fun _ _ _ h => h) (Or.inl ⟨by rfl, ?hy31⟩) (by assumption) ?_
            case hy31 => intro w_ hSw; (try dsimp only at hSw); (try (have hSw1 := hSw.1; have hSw2 := hSw.2; clear hSw)); go_simp; all_goals (with_reducible rfl)
            (try simp only [Act.put, List.setIfInBounds_toArray, List.set_cons_zero, List.set_cons_succ])
            refine wpAnyH_done (by kernel_rfl) ?_ _
            clear hHeld
            go_wp2_with fail
            go_roundg (u.length - (0 + 1))
            case measure => have := HK.out; omega
            case rel => exact ⟨_, 0 + 1, rfl, ⟨rfl⟩, ⟨by omega⟩, by go_num, ⟨(by repeat (first | exact HC0.out | apply Kd.C_drew | apply Kd.C_drewN))⟩, ⟨(by repeat (first | exact HC1.out | apply Kd.C_drew | apply Kd.C_drewN))⟩, ⟨(by repeat (first | exact HCU.out | apply Kd.C_drew | apply Kd.C_drewN))⟩, ⟨by repeat (first | exact HB.out | apply below_drew | apply pw_below_drewN)⟩⟩
          · have HP := Aside0.mk hp
            have HQ := Aside0.mk hq
            have dp : decide (p < 0) = true := decide_eq_true hp0
            have dq : decide (q < 0) = false := decide_eq_false (by omega)
            clear hp hq
            as_aux_lemma =>
            go_wp2_with fail
            refine wp_region_held_drew (S := fun w' => w'.cell? ad = some (.string xi)) (by kernel_rfl) (by exact (by repeat (first | (with_reducible exact hXI.out) | (with_reducible apply semblancelaw02_NamesUnion.dr_cell) | (with_reducible apply semblancelaw02_NamesUnion.drN_cell)))) (fun hHeld => ?_)
            refine wpAnyH_take (i := 0) (oi := { dst := some 55, op := Go.Op.move (Go.Operand.tmp 6), type := 3, pos := "law.go:60", after := #[], guard := none }) (v := ?_) rfl (by kernel_rfl) (by kernel_rfl) (by kernel_rfl) (fun _ _ _ h => h) (Or.inl ⟨by rfl, ?hy0⟩) (by assumption) ?_
            case hy0 => intro w_ hSw; (try dsimp only at hSw); (try (have hSw1 := hSw.1; have hSw2 := hSw.2; clear hSw)); go_simp; all_goals (with_reducible rfl)
            (try simp only [Act.put, List.setIfInBounds_toArray, List.set_cons_zero, List.set_cons_succ])
            refine wpAnyH_take (i := 1) (oi := { dst := some 56, op := Go.Op.binOp Go.BinOp.gtr 3 (Go.Operand.tmp 55) (Go.Operand.const (Go.Value.int Go.IntKind.i64 0)) 3, type := 4, pos := "law.go:60", after := #[{ on := 0, ground := Go.Ground.data }], guard := none }) (v := ?_) rfl (by kernel_rfl) (by kernel_rfl) (by kernel_rfl) (fun _ _ _ h => h) (Or.inl ⟨by rfl, ?hy1⟩) (by assumption) ?_
            case hy1 => intro w_ hSw; (try dsimp only at hSw); (try (have hSw1 := hSw.1; have hSw2 := hSw.2; clear hSw)); go_simp; all_goals (with_reducible rfl)
            (try simp only [Act.put, List.setIfInBounds_toArray, List.set_cons_zero, List.set_cons_succ])
            refine wpAnyH_take (i := 2) (oi := { dst := some 57, op := Go.Op.move (Go.Operand.tmp 56), type := 4, pos := "law.go:60", after := #[{ on := 1, ground := Go.Ground.data }], guard := none }) (v := ?_) rfl (by kernel_rfl) (by kernel_rfl) (by kernel_rfl) (fun _ _ _ h => h) (Or.inl ⟨by rfl, ?hy2⟩) (by assumption) ?_
            case hy2 => intro w_ hSw; (try dsimp only at hSw); (try (have hSw1 := hSw.1; have hSw2 := hSw.2; clear hSw)); go_simp; all_goals (with_reducible rfl)
            (try simp only [Act.put, List.setIfInBounds_toArray, List.set_cons_zero, List.set_cons_succ])
            refine wpAnyH_take (i := 3) (oi := { dst := some 58, op := Go.Op.move (Go.Operand.tmp 5), type := 22, pos := "law.go:60", after := #[{ on := 2, ground := Go.Ground.guard }], guard := some (2, true) }) (v := undef) rfl (by kernel_rfl) (by kernel_rfl) (by kernel_rfl) (fun _ _ _ h => h) (Or.inr ⟨by rfl, rfl⟩) (by assumption) ?_
            (try simp only [Act.put, List.setIfInBounds_toArray, List.set_cons_zero, List.set_cons_succ])
            refine wpAnyH_take (i := 4) (oi := { dst := some 59, op := Go.Op.move (Go.Operand.tmp 6), type := 3, pos := "law.go:60", after := #[{ on := 2, ground := Go.Ground.guard }], guard := some (2, true) }) (v := undef) rfl (by kernel_rfl) (by kernel_rfl) (by kernel_rfl) (fun _ _ _ h => h) (Or.inr ⟨by rfl, rfl⟩) (by assumption) ?_
            (try simp only [Act.put, List.setIfInBounds_toArray, List.set_cons_zero, List.set_cons_succ])
            refine wpAnyH_take (i := 5) (oi := { dst := some 60, op := Go.Op.binOp Go.BinOp.sub 3 (Go.Operand.tmp 59) (Go.Operand.const (Go.Value.int Go.IntKind.i64 1)) 3, type := 3, pos := "law.go:60", after := #[{ on := 4, ground := Go.Ground.data }, { on := 2, ground := Go.Ground.guard }], guard := some (2, true) }) (v := undef) rfl (by kernel_rfl) (by kernel_rfl) (by kernel_rfl) (fun _ _ _ h => h) (Or.inr ⟨by rfl, rfl⟩) (by assumption) ?_
            (try simp only [Act.put, List.setIfInBounds_toArray, List.set_cons_zero, List.set_cons_succ])
            refine wpAnyH_take (i := 6) (oi := { dst := some 61, op := Go.Op.indexAddr 22 (Go.Operand.tmp 58) (Go.Operand.tmp 60), type := 0, pos := "law.go:60", after := #[{ on := 3, ground := Go.Ground.data }, { on := 5, ground := Go.Ground.data }, { on := 2, ground := Go.Ground.guard }], guard := some (2, true) }) (v := undef) rfl (by kernel_rfl) (by kernel_rfl) (by kernel_rfl) (fun _ _ _ h => h) (Or.inr ⟨by rfl, rfl⟩) (by assumption) ?_
            (try simp only [Act.put, List.setIfInBounds_toArray, List.set_cons_zero, List.set_cons_succ])
            refine wpAnyH_take (i := 7) (oi := { dst := some 62, op := Go.Op.load 9 (Go.Operand.tmp 61), type := 9, pos := "law.go:60", after := #[{ on := 6, ground := Go.Ground.data }, { on := 2, ground := Go.Ground.guard }], guard := some (2, true) }) (v := undef) rfl (by kernel_rfl) (by kernel_rfl) (by kernel_rfl) (fun _ _ _ h => h) (Or.inr ⟨by rfl, rfl⟩) (by assumption) ?_
            (try simp only [Act.put, List.setIfInBounds_toArray, List.set_cons_zero, List.set_cons_succ])
            refine wpAnyH_take (i := 8) (oi := { dst := some 63, op := Go.Op.move (Go.Operand.tmp 5), type := 22, pos := "law.go:60", after := #[{ on := 2, ground := Go.Ground.guard }], guard := some (2, true) }) (v := undef) rfl (by kernel_rfl) (by kernel_rfl) (by kernel_rfl) (fun _ _ _ h => h) (Or.inr ⟨by rfl, rfl⟩) (by assumption) ?_
            (try simp only [Act.put, List.setIfInBounds_toArray, List.set_cons_zero, List.set_cons_succ])
            refine wpAnyH_take (i := 9) (oi := { dst := some 64, op := Go.Op.move (Go.Operand.tmp 6), type := 3, pos := "law.go:60", after := #[{ on := 2, ground := Go.Ground.guard }], guard := some (2, true) }) (v := undef) rfl (by kernel_rfl) (by kernel_rfl) (by kernel_rfl) (fun _ _ _ h => h) (Or.inr ⟨by rfl, rfl⟩) (by assumption) ?_
            (try simp only [Act.put, List.setIfInBounds_toArray, List.set_cons_zero, List.set_cons_succ])
            refine wpAnyH_take (i := 10) (oi := { dst := some 65, op := Go.Op.indexAddr 22 (Go.Operand.tmp 63) (Go.Operand.tmp 64), type := 0, pos := "law.go:60", after := #[{ on := 8, ground := Go.Ground.data }, { on := 9, ground := Go.Ground.data }, { on := 2, ground := Go.Ground.guard }], guard := some (2, true) }) (v := undef) rfl (by kernel_rfl) (by kernel_rfl) (by kernel_rfl) (fun _ _ _ h => h) (Or.inr ⟨by rfl, rfl⟩) (by assumption) ?_
            (try simp only [Act.put, List.setIfInBounds_toArray, List.set_cons_zero, List.set_cons_succ])
            refine wpAnyH_take (i := 11) (oi := { dst := some 66, op := Go.Op.load 9 (Go.Operand.tmp 65), type := 9, pos := "law.go:60", after := #[{ on := 10, ground := Go.Ground.data }, { on := 2, ground := Go.Ground.guard }], guard := some (2, true) }) (v := undef) rfl (by kernel_rfl) (by kernel_rfl) (by kernel_rfl) (fun _ _ _ h => h) (Or.inr ⟨by rfl, rfl⟩) (by assumption) ?_
            (try simp only [Act.put, List.setIfInBounds_toArray, List.set_cons_zero, List.set_cons_succ])
            refine wpAnyH_take (i := 12) (oi := { dst := some 67, op := Go.Op.binOp Go.BinOp.geq 9 (Go.Operand.tmp 62) (Go.Operand.tmp 66) 9, type := 4, pos := "law.go:60", after := #[{ on := 7, ground := Go.Ground.data }, { on := 11, ground := Go.Ground.data }, { on := 2, ground := Go.Ground.guard }], guard := some (2, true) }) (v := undef) rfl (by kernel_rfl) (by kernel_rfl) (by kernel_rfl) (fun _ _ _ h => h) (Or.inr ⟨by rfl, rfl⟩) (by assumption) ?_
            (try simp only [Act.put, List.setIfInBounds_toArray, List.set_cons_zero, List.set_cons_succ])
            refine wpAnyH_take (i := 13) (oi := { dst := some 68, op := Go.Op.pick (Go.Operand.tmp 57) (Go.Operand.tmp 67) (Go.Operand.const (Go.Value.bool false)), type := 4, pos := "law.go:60", after := #[{ on := 2, ground := Go.Ground.data }, { on := 12, ground := Go.Ground.data }], guard := none }) (v := ?_) rfl (by kernel_rfl) (by kernel_rfl) (by kernel_rfl) (fun _ _ _ h => h) (Or.inl ⟨by rfl, ?hy13⟩) (by assumption) ?_
            case hy13 => intro w_ hSw; (try dsimp only at hSw); (try (have hSw1 := hSw.1; have hSw2 := hSw.2; clear hSw)); go_simp; all_goals (with_reducible rfl)
            (try simp only [Act.put, List.setIfInBounds_toArray, List.set_cons_zero, List.set_cons_succ])
            refine wpAnyH_take (i := 14) (oi := { dst := some 69, op := Go.Op.move (Go.Operand.tmp 68), type := 4, pos := "law.go:60", after := #[{ on := 13, ground := Go.Ground.data }, { on := 2, ground := Go.Ground.chain }], guard := none }) (v := ?_) rfl (by kernel_rfl) (by kernel_rfl) (by kernel_rfl) (fun _ _ _ h => h) (Or.inl ⟨by rfl, ?hy14⟩) (by assumption) ?_
            case hy14 => intro w_ hSw; (try dsimp only at hSw); (try (have hSw1 := hSw.1; have hSw2 := hSw.2; clear hSw)); go_simp; all_goals (with_reducible rfl)
            (try simp only [Act.put, List.setIfInBounds_toArray, List.set_cons_zero, List.set_cons_succ])
            refine wpAnyH_take (i := 15) (oi := { dst := some 70, op := Go.Op.move (Go.Operand.tmp 0), type := 22, pos := "law.go:60", after := #[{ on := 14, ground := Go.Ground.guard }], guard := some (14, false) }) (v := ?_) rfl (by kernel_rfl) (by kernel_rfl) (by kernel_rfl) (fun _ _ _ h => h) (Or.inl ⟨by rfl, ?hy15⟩) (by assumption) ?_
            case hy15 => intro w_ hSw; (try dsimp only at hSw); (try (have hSw1 := hSw.1; have hSw2 := hSw.2; clear hSw)); go_simp; all_goals (with_reducible rfl)
            (try simp only [Act.put, List.setIfInBounds_toArray, List.set_cons_zero, List.set_cons_succ])
            refine wpAnyH_take (i := 16) (oi := { dst := some 71, op := Go.Op.move (Go.Operand.tmp 5), type := 22, pos := "law.go:60", after := #[{ on := 14, ground := Go.Ground.guard }], guard := some (14, false) }) (v := ?_) rfl (by kernel_rfl) (by kernel_rfl) (by kernel_rfl) (fun _ _ _ h => h) (Or.inl ⟨by rfl, ?hy16⟩) (by assumption) ?_
            case hy16 => intro w_ hSw; (try dsimp only at hSw); (try (have hSw1 := hSw.1; have hSw2 := hSw.2; clear hSw)); go_simp; all_goals (with_reducible rfl)
            (try simp only [Act.put, List.setIfInBounds_toArray, List.set_cons_zero, List.set_cons_succ])
            refine wpAnyH_take (i := 17) (oi := { dst := some 72, op := Go.Op.move (Go.Operand.tmp 6), type := 3, pos := "law.go:60", after := #[{ on := 14, ground := Go.Ground.guard }], guard := some (14, false) }) (v := ?_) rfl (by kernel_rfl) (by kernel_rfl) (by kernel_rfl) (fun _ _ _ h => h) (Or.inl ⟨by rfl, ?hy17⟩) (by assumption) ?_
            case hy17 => intro w_ hSw; (try dsimp only at hSw); (try (have hSw1 := hSw.1; have hSw2 := hSw.2; clear hSw)); go_simp; all_goals (with_reducible rfl)
            (try simp only [Act.put, List.setIfInBounds_toArray, List.set_cons_zero, List.set_cons_succ])
            refine wpAnyH_take (i := 18) (oi := { dst := some 73, op := Go.Op.indexAddr 22 (Go.Operand.tmp 71) (Go.Operand.tmp 72), type := 0, pos := "law.go:60", after := #[{ on := 16, ground := Go.Ground.data }, { on := 17, ground := Go.Ground.data }, { on := 14, ground := Go.Ground.guard }], guard := some (14, false) }) (v := ?_) rfl (by kernel_rfl) (by kernel_rfl) (by kernel_rfl) (fun _ _ _ h => h) (Or.inl ⟨by rfl, ?hy18⟩) (by assumption) ?_
            case hy18 => intro w_ hSw; (try dsimp only at hSw); (try (have hSw1 := hSw.1; have hSw2 := hSw.2; clear hSw)); go_simp; all_goals (with_reducible rfl)
            (try simp only [Act.put, List.setIfInBounds_toArray, List.set_cons_zero, List.set_cons_succ])
            refine wpAnyH_take (i := 19) (oi := { dst := some 74, op := Go.Op.load 9 (Go.Operand.tmp 73), type := 9, pos := "law.go:60", after := #[{ on := 18, ground := Go.Ground.data }, { on := 14, ground := Go.Ground.guard }], guard := some (14, false) }) (v := ?_) rfl (by kernel_rfl) (by kernel_rfl) (by kernel_rfl) (fun _ _ _ h => h) (Or.inl ⟨by rfl, ?hy19⟩) (by assumption) ?_
            case hy19 => intro w_ hSw; (try dsimp only at hSw); (try (have hSw1 := hSw.1; have hSw2 := hSw.2; clear hSw)); go_simp; all_goals (with_reducible rfl)
            (try simp only [Act.put, List.setIfInBounds_toArray, List.set_cons_zero, List.set_cons_succ])
            refine wpAnyH_ready (rs := [20]) (by kernel_rfl) (by simp) ?_
            refine AllReadyH.cons (o := { dst := some 75, op := Go.Op.call { callee := Go.Callee.value (Go.Operand.func 30), args := #[Go.Operand.tmp 70, Go.Operand.tmp 74], argTypes := #[22, 9] }, type := 3, pos := "law.go:60", after := #[{ on := 15, ground := Go.Ground.data }, { on := 19, ground := Go.Ground.data }, { on := 14, ground := Go.Ground.chain }, { on := 14, ground := Go.Ground.guard }], guard := some (14, false) }) rfl (fun K hK => ?_) AllReadyH.nil
            go_simp
            go_at_call 30
            ((with_reducible refine (semblanceref02_Place.calls k A0 c0 l0 xi p _ (by repeat (first | exact HC0.out | apply Kd.C_drew | apply Kd.C_drewN)) hc0 HP.out).mono ?_); rintro e w' ⟨rfl, ⟨m3, rfl⟩⟩)
            (try go_wp2_with fail)
            refine hK.out _ _ (by (try dsimp only); exact (by repeat (first | (with_reducible exact hXI.out) | (with_reducible apply semblancelaw02_NamesUnion.dr_cell) | (with_reducible apply semblancelaw02_NamesUnion.drN_cell)))) (fun hHeld2 => ?_)
            clear hK K hHeld
            have hHeld := hHeld2
            clear hHeld2
            (try simp only [Act.put, List.setIfInBounds_toArray, List.set_cons_zero, List.set_cons_succ])
            refine wpAnyH_take (i := 21) (oi := { dst := some 76, op := Go.Op.binOp Go.BinOp.lss 3 (Go.Operand.tmp 75) (Go.Operand.const (Go.Value.int Go.IntKind.i64 0)) 3, type := 4, pos := "law.go:60", after := #[{ on := 20, ground := Go.Ground.data }, { on := 14, ground := Go.Ground.guard }], guard := some (14, false) }) (v := ?_) rfl (by kernel_rfl) (by kernel_rfl) (by kernel_rfl) (fun _ _ _ h => h) (Or.inl ⟨by rfl, ?hy21⟩) (by assumption) ?_
            case hy21 => intro w_ hSw; (try dsimp only at hSw); (try (have hSw1 := hSw.1; have hSw2 := hSw.2; clear hSw)); go_simp; all_goals (with_reducible rfl)
            (try simp only [Act.put, List.setIfInBounds_toArray, List.set_cons_zero, List.set_cons_succ])
            refine wpAnyH_take (i := 22) (oi := { dst := some 77, op := Go.Op.move (Go.Operand.tmp 76), type := 4, pos := "law.go:60", after := #[{ on := 21, ground := Go.Ground.data }, { on := 20, ground := Go.Ground.chain }, { on := 14, ground := Go.Ground.guard }], guard := some (14, false) }) (v := ?_) rfl (by kernel_rfl) (by kernel_rfl) (by kernel_rfl) (fun _ _ _ h => h) (Or.inl ⟨by rfl, ?hy22⟩) (by assumption) ?_
            case hy22 => intro w_ hSw; (try dsimp only at hSw); (try (have hSw1 := hSw.1; have hSw2 := hSw.2; clear hSw)); go_simp; all_goals (with_reducible rfl)
            (try simp only [Act.put, List.setIfInBounds_toArray, List.set_cons_zero, List.set_cons_succ])
            refine wpAnyH_take (i := 23) (oi := { dst := some 78, op := Go.Op.move (Go.Operand.tmp 1), type := 22, pos := "law.go:60", after := #[{ on := 22, ground := Go.Ground.guard }], guard := some (22, true) }) (v := ?_) rfl (by kernel_rfl) (by kernel_rfl) (by kernel_rfl) (fun _ _ _ h => h) (Or.inl ⟨by rfl, ?hy23⟩) (by assumption) ?_
            case hy23 => intro w_ hSw; (try dsimp only at hSw); (try (have hSw1 := hSw.1; have hSw2 := hSw.2; clear hSw)); go_simp; all_goals (with_reducible rfl)
            (try simp only [Act.put, List.setIfInBounds_toArray, List.set_cons_zero, List.set_cons_succ])
            refine wpAnyH_take (i := 24) (oi := { dst := some 79, op := Go.Op.move (Go.Operand.tmp 5), type := 22, pos := "law.go:60", after := #[{ on := 22, ground := Go.Ground.guard }], guard := some (22, true) }) (v := ?_) rfl (by kernel_rfl) (by kernel_rfl) (by kernel_rfl) (fun _ _ _ h => h) (Or.inl ⟨by rfl, ?hy24⟩) (by assumption) ?_
            case hy24 => intro w_ hSw; (try dsimp only at hSw); (try (have hSw1 := hSw.1; have hSw2 := hSw.2; clear hSw)); go_simp; all_goals (with_reducible rfl)
            (try simp only [Act.put, List.setIfInBounds_toArray, List.set_cons_zero, List.set_cons_succ])
            refine wpAnyH_take (i := 25) (oi := { dst := some 80, op := Go.Op.move (Go.Operand.tmp 6), type := 3, pos := "law.go:60", after := #[{ on := 22, ground := Go.Ground.guard }], guard := some (22, true) }) (v := ?_) rfl (by kernel_rfl) (by kernel_rfl) (by kernel_rfl) (fun _ _ _ h => h) (Or.inl ⟨by rfl, ?hy25⟩) (by assumption) ?_
            case hy25 => intro w_ hSw; (try dsimp only at hSw); (try (have hSw1 := hSw.1; have hSw2 := hSw.2; clear hSw)); go_simp; all_goals (with_reducible rfl)
            (try simp only [Act.put, List.setIfInBounds_toArray, List.set_cons_zero, List.set_cons_succ])
            refine wpAnyH_take (i := 26) (oi := { dst := some 81, op := Go.Op.indexAddr 22 (Go.Operand.tmp 79) (Go.Operand.tmp 80), type := 0, pos := "law.go:60", after := #[{ on := 24, ground := Go.Ground.data }, { on := 25, ground := Go.Ground.data }, { on := 22, ground := Go.Ground.guard }], guard := some (22, true) }) (v := ?_) rfl (by kernel_rfl) (by kernel_rfl) (by kernel_rfl) (fun _ _ _ h => h) (Or.inl ⟨by rfl, ?hy26⟩) (by assumption) ?_
            case hy26 => intro w_ hSw; (try dsimp only at hSw); (try (have hSw1 := hSw.1; have hSw2 := hSw.2; clear hSw)); go_simp; all_goals (with_reducible rfl)
            (try simp only [Act.put, List.setIfInBounds_toArray, List.set_cons_zero, List.set_cons_succ])
            refine wpAnyH_take (i := 27) (oi := { dst := some 82, op := Go.Op.load 9 (Go.Operand.tmp 81), type := 9, pos := "law.go:60", after := #[{ on := 26, ground := Go.Ground.data }, { on := 22, ground := Go.Ground.guard }], guard := some (22, true) }) (v := ?_) rfl (by kernel_rfl) (by kernel_rfl) (by kernel_rfl) (fun _ _ _ h => h) (Or.inl ⟨by rfl, ?hy27⟩) (by assumption) ?_
            case hy27 => intro w_ hSw; (try dsimp only at hSw); (try (have hSw1 := hSw.1; have hSw2 := hSw.2; clear hSw)); go_simp; all_goals (with_reducible rfl)
            (try simp only [Act.put, List.setIfInBounds_toArray, List.set_cons_zero, List.set_cons_succ])
            refine wpAnyH_ready (rs := [28]) (by kernel_rfl) (by simp) ?_
            refine AllReadyH.cons (o := { dst := some 83, op := Go.Op.call { callee := Go.Callee.value (Go.Operand.func 30), args := #[Go.Operand.tmp 78, Go.Operand.tmp 82], argTypes := #[22, 9] }, type := 3, pos := "law.go:60", after := #[{ on := 23, ground := Go.Ground.data }, { on := 27, ground := Go.Ground.data }, { on := 22, ground := Go.Ground.chain }, { on := 22, ground := Go.Ground.guard }], guard := some (22, true) }) rfl (fun K hK => ?_) AllReadyH.nil
            go_simp
            go_at_call 30
            ((with_reducible refine (semblanceref02_Place.calls k A1 c1 l1 xi q _ (by repeat (first | exact HC1.out | apply Kd.C_drew | apply Kd.C_drewN)) hc1 HQ.out).mono ?_); rintro e w' ⟨rfl, ⟨m4, rfl⟩⟩)
            (try go_wp2_with fail)
            refine hK.out _ _ (by (try dsimp only); exact (by repeat (first | (with_reducible exact hXI.out) | (with_reducible apply semblancelaw02_NamesUnion.dr_cell) | (with_reducible apply semblancelaw02_NamesUnion.drN_cell)))) (fun hHeld2 => ?_)
            clear hK K hHeld
            have hHeld := hHeld2
            clear hHeld2
            (try simp only [Act.put, List.setIfInBounds_toArray, List.set_cons_zero, List.set_cons_succ])
            refine wpAnyH_take (i := 29) (oi := { dst := some 84, op := Go.Op.binOp Go.BinOp.lss 3 (Go.Operand.tmp 83) (Go.Operand.const (Go.Value.int Go.IntKind.i64 0)) 3, type := 4, pos := "law.go:60", after := #[{ on := 28, ground := Go.Ground.data }, { on := 22, ground := Go.Ground.guard }], guard := some (22, true) }) (v := ?_) rfl (by kernel_rfl) (by kernel_rfl) (by kernel_rfl) (fun _ _ _ h => h) (Or.inl ⟨by rfl, ?hy29⟩) (by assumption) ?_
            case hy29 => intro w_ hSw; (try dsimp only at hSw); (try (have hSw1 := hSw.1; have hSw2 := hSw.2; clear hSw)); go_simp; all_goals (with_reducible rfl)
            (try simp only [Act.put, List.setIfInBounds_toArray, List.set_cons_zero, List.set_cons_succ])
            refine wpAnyH_take (i := 30) (oi := { dst := some 85, op := Go.Op.pick (Go.Operand.tmp 77) (Go.Operand.tmp 84) (Go.Operand.const (Go.Value.bool false)), type := 4, pos := "law.go:60", after := #[{ on := 22, ground := Go.Ground.data }, { on := 29, ground := Go.Ground.data }, { on := 14, ground := Go.Ground.guard }], guard := some (14, false) }) (v := ?_) rfl (by kernel_rfl) (by kernel_rfl) (by kernel_rfl) (fun _ _ _ h => h) (Or.inl ⟨by rfl, ?hy30⟩) (by assumption) ?_
            case hy30 => intro w_ hSw; (try dsimp only at hSw); (try (have hSw1 := hSw.1; have hSw2 := hSw.2; clear hSw)); go_simp; all_goals (with_reducible rfl)
            (try simp only [Act.put, List.setIfInBounds_toArray, List.set_cons_zero, List.set_cons_succ])
            refine wpAnyH_take (i := 31) (oi := { dst := some 86, op := Go.Op.pick (Go.Operand.tmp 69) (Go.Operand.const (Go.Value.bool true)) (Go.Operand.tmp 85), type := 4, pos := "law.go:60", after := #[{ on := 14, ground := Go.Ground.data }, { on := 30, ground := Go.Ground.data }], guard := none }) (v := ?_) rfl (by kernel_rfl) (by kernel_rfl) (by kernel_rfl) (fun _ _ _ h => h) (Or.inl ⟨by rfl, ?hy31⟩) (by assumption) ?_
            case hy31 => intro w_ hSw; (try dsimp only at hSw); (try (have hSw1 := hSw.1; have hSw2 := hSw.2; clear hSw)); go_simp; all_goals (with_reducible rfl)
            (try simp only [Act.put, List.setIfInBounds_toArray, List.set_cons_zero, List.set_cons_succ])
            refine wpAnyH_done (by kernel_rfl) ?_ _
            clear hHeld
            go_wp2_with fail
            go_roundg (u.length - (0 + 1))
            case measure => have := HK.out; omega
            case rel => exact ⟨_, 0 + 1, rfl, ⟨rfl⟩, ⟨by omega⟩, by go_num, ⟨(by repeat (first | exact HC0.out | apply Kd.C_drew | apply Kd.C_drewN))⟩, ⟨(by repeat (first | exact HC1.out | apply Kd.C_drew | apply Kd.C_drewN))⟩, ⟨(by repeat (first | exact HCU.out | apply Kd.C_drew | apply Kd.C_drewN))⟩, ⟨by repeat (first | exact HB.out | apply below_drew | apply pw_below_drewN)⟩⟩
        | succ j =>
          obtain ⟨ad', ea', hx1⟩ := Kd.at_string HCU.out (j : Int) (by omega) (by omega)
          injection ea' with ea'
          subst ea'
          rw [Int.toNat_natCast] at hx1
          have hless := HG1.out (Nat.succ_pos _)
          clear HG1
          change Op.bytesLess (semblancelaw02_NamesUnion.rd u j).toList (semblancelaw02_NamesUnion.rd u (j + 1)).toList = true at hless
          change wr.cell? (ad.add (j + 1)) = some (.string (semblancelaw02_NamesUnion.rd u (j + 1))) at hx0
          change wr.cell? (ad.add j) = some (.string (semblancelaw02_NamesUnion.rd u j)) at hx1
          generalize semblancelaw02_NamesUnion.rd u (j + 1) = xi at *
          generalize semblancelaw02_NamesUnion.rd u j = xj at *
          rw [show ad.add (j + 1) = { block := ad.block, off := ad.off + (j + 1) } from rfl] at hx0
          have hXI := Aside0.mk hx0
          have hXJ := Aside0.mk hx1
          clear hx0 hx1
          have hj0 : (0 : Int) ≤ (j : Int) := Int.natCast_nonneg _
          have hj1 : (j : Int) < (u.length : Int) := by omega
          have hj2 : (j : Int) + 1 < (u.length : Int) := by omega
          have hj3 : (0 : Int) ≤ (j : Int) + 1 := by omega
          have hj4 : ((j : Int) + 1).toNat = j + 1 := by omega
          have hj5 : (0 : Int) < (j : Int) + 1 := by omega
          have hw1 : IntKind.i64.wrap ((j : Int) + 1 - 1) = (j : Int) := by rw [Int.add_sub_cancel]; exact IntWalk.i64_in _ (by omega)
          have hw2 : IntKind.i64.wrap (j : Int) = (j : Int) := IntWalk.i64_in _ (by omega)
          rcases HG2.out with ⟨p, hp, hp0⟩ | ⟨p, hp, hp0, q, hq, hq0⟩
          · have HP := Aside0.mk hp
            have dp : decide (p < 0) = false := decide_eq_false (by omega)
            clear hp
            as_aux_lemma =>
            go_wp2_with fail
            refine wp_region_held_drew (S := fun w' => w'.cell? { block := ad.block, off := ad.off + (j + 1) } = some (.string xi) ∧ w'.cell? (ad.add j) = some (.string xj)) (by kernel_rfl) (by exact ⟨(by repeat (first | (with_reducible exact hXI.out) | (with_reducible apply semblancelaw02_NamesUnion.dr_cell) | (with_reducible apply semblancelaw02_NamesUnion.drN_cell))), (by repeat (first | (with_reducible exact hXJ.out) | (with_reducible apply semblancelaw02_NamesUnion.dr_cell) | (with_reducible apply semblancelaw02_NamesUnion.drN_cell)))⟩) (fun hHeld => ?_)
            refine wpAnyH_take (i := 0) (oi := { dst := some 55, op := Go.Op.move (Go.Operand.tmp 6), type := 3, pos := "law.go:60", after := #[], guard := none }) (v := ?_) rfl (by kernel_rfl) (by kernel_rfl) (by kernel_rfl) (fun _ _ _ h => h) (Or.inl ⟨by rfl, ?hy0⟩) (by assumption) ?_
            case hy0 => intro w_ hSw; (try dsimp only at hSw); (try (have hSw1 := hSw.1; have hSw2 := hSw.2; clear hSw)); go_simp; all_goals (with_reducible rfl)
            (try simp only [Act.put, List.setIfInBounds_toArray, List.set_cons_zero, List.set_cons_succ])
            refine wpAnyH_take (i := 1) (oi := { dst := some 56, op := Go.Op.binOp Go.BinOp.gtr 3 (Go.Operand.tmp 55) (Go.Operand.const (Go.Value.int Go.IntKind.i64 0)) 3, type := 4, pos := "law.go:60", after := #[{ on := 0, ground := Go.Ground.data }], guard := none }) (v := ?_) rfl (by kernel_rfl) (by kernel_rfl) (by kernel_rfl) (fun _ _ _ h => h) (Or.inl ⟨by rfl, ?hy1⟩) (by assumption) ?_
            case hy1 => intro w_ hSw; (try dsimp only at hSw); (try (have hSw1 := hSw.1; have hSw2 := hSw.2; clear hSw)); go_simp; all_goals (with_reducible rfl)
            (try simp only [Act.put, List.setIfInBounds_toArray, List.set_cons_zero, List.set_cons_succ])
            refine wpAnyH_take (i := 2) (oi := { dst := some 57, op := Go.Op.move (Go.Operand.tmp 56), type := 4, pos := "law.go:60", after := #[{ on := 1, ground := Go.Ground.data }], guard := none }) (v := ?_) rfl (by kernel_rfl) (by kernel_rfl) (by kernel_rfl) (fun _ _ _ h => h) (Or.inl ⟨by rfl, ?hy2⟩) (by assumption) ?_
            case hy2 => intro w_ hSw; (try dsimp only at hSw); (try (have hSw1 := hSw.1; have hSw2 := hSw.2; clear hSw)); go_simp; all_goals (with_reducible rfl)
            (try simp only [Act.put, List.setIfInBounds_toArray, List.set_cons_zero, List.set_cons_succ])
            refine wpAnyH_take (i := 3) (oi := { dst := some 58, op := Go.Op.move (Go.Operand.tmp 5), type := 22, pos := "law.go:60", after := #[{ on := 2, ground := Go.Ground.guard }], guard := some (2, true) }) (v := ?_) rfl (by kernel_rfl) (by kernel_rfl) (by kernel_rfl) (fun _ _ _ h => h) (Or.inl ⟨by rfl, ?hy3⟩) (by assumption) ?_
            case hy3 => intro w_ hSw; (try dsimp only at hSw); (try (have hSw1 := hSw.1; have hSw2 := hSw.2; clear hSw)); go_simp; all_goals (with_reducible rfl)
            (try simp only [Act.put, List.setIfInBounds_toArray, List.set_cons_zero, List.set_cons_succ])
            refine wpAnyH_take (i := 4) (oi := { dst := some 59, op := Go.Op.move (Go.Operand.tmp 6), type := 3, pos := "law.go:60", after := #[{ on := 2, ground := Go.Ground.guard }], guard := some (2, true) }) (v := ?_) rfl (by kernel_rfl) (by kernel_rfl) (by kernel_rfl) (fun _ _ _ h => h) (Or.inl ⟨by rfl, ?hy4⟩) (by assumption) ?_
            case hy4 => intro w_ hSw; (try dsimp only at hSw); (try (have hSw1 := hSw.1; have hSw2 := hSw.2; clear hSw)); go_simp; all_goals (with_reducible rfl)
            (try simp only [Act.put, List.setIfInBounds_toArray, List.set_cons_zero, List.set_cons_succ])
            refine wpAnyH_take (i := 5) (oi := { dst := some 60, op := Go.Op.binOp Go.BinOp.sub 3 (Go.Operand.tmp 59) (Go.Operand.const (Go.Value.int Go.IntKind.i64 1)) 3, type := 3, pos := "law.go:60", after := #[{ on := 4, ground := Go.Ground.data }, { on := 2, ground := Go.Ground.guard }], guard := some (2, true) }) (v := ?_) rfl (by kernel_rfl) (by kernel_rfl) (by kernel_rfl) (fun _ _ _ h => h) (Or.inl ⟨by rfl, ?hy5⟩) (by assumption) ?_
            case hy5 => intro w_ hSw; (try dsimp only at hSw); (try (have hSw1 := hSw.1; have hSw2 := hSw.2; clear hSw)); go_simp; all_goals (with_reducible rfl)
            (try simp only [Act.put, List.setIfInBounds_toArray, List.set_cons_zero, List.set_cons_succ])
            refine wpAnyH_take (i := 6) (oi := { dst := some 61, op := Go.Op.indexAddr 22 (Go.Operand.tmp 58) (Go.Operand.tmp 60), type := 0, pos := "law.go:60", after := #[{ on := 3, ground := Go.Ground.data }, { on := 5, ground := Go.Ground.data }, { on := 2, ground := Go.Ground.guard }], guard := some (2, true) }) (v := ?_) rfl (by kernel_rfl) (by kernel_rfl) (by kernel_rfl) (fun _ _ _ h => h) (Or.inl ⟨by rfl, ?hy6⟩) (by assumption) ?_
            case hy6 => intro w_ hSw; (try dsimp only at hSw); (try (have hSw1 := hSw.1; have hSw2 := hSw.2; clear hSw)); go_simp; all_goals (with_reducible rfl)
            (try simp only [Act.put, List.setIfInBounds_toArray, List.set_cons_zero, List.set_cons_succ])
            refine wpAnyH_take (i := 7) (oi := { dst := some 62, op := Go.Op.load 9 (Go.Operand.tmp 61), type := 9, pos := "law.go:60", after := #[{ on := 6, ground := Go.Ground.data }, { on := 2, ground := Go.Ground.guard }], guard := some (2, true) }) (v := ?_) rfl (by kernel_rfl) (by kernel_rfl) (by kernel_rfl) (fun _ _ _ h => h) (Or.inl ⟨by rfl, ?hy7⟩) (by assumption) ?_
            case hy7 => intro w_ hSw; (try dsimp only at hSw); (try (have hSw1 := hSw.1; have hSw2 := hSw.2; clear hSw)); go_simp; all_goals (with_reducible rfl)
            (try simp only [Act.put, List.setIfInBounds_toArray, List.set_cons_zero, List.set_cons_succ])
            refine wpAnyH_take (i := 8) (oi := { dst := some 63, op := Go.Op.move (Go.Operand.tmp 5), type := 22, pos := "law.go:60", after := #[{ on := 2, ground := Go.Ground.guard }], guard := some (2, true) }) (v := ?_) rfl (by kernel_rfl) (by kernel_rfl) (by kernel_rfl) (fun _ _ _ h => h) (Or.inl ⟨by rfl, ?hy8⟩) (by assumption) ?_
            case hy8 => intro w_ hSw; (try dsimp only at hSw); (try (have hSw1 := hSw.1; have hSw2 := hSw.2; clear hSw)); go_simp; all_goals (with_reducible rfl)
            (try simp only [Act.put, List.setIfInBounds_toArray, List.set_cons_zero, List.set_cons_succ])
            refine wpAnyH_take (i := 9) (oi := { dst := some 64, op := Go.Op.move (Go.Operand.tmp 6), type := 3, pos := "law.go:60", after := #[{ on := 2, ground := Go.Ground.guard }], guard := some (2, true) }) (v := ?_) rfl (by kernel_rfl) (by kernel_rfl) (by kernel_rfl) (fun _ _ _ h => h) (Or.inl ⟨by rfl, ?hy9⟩) (by assumption) ?_
            case hy9 => intro w_ hSw; (try dsimp only at hSw); (try (have hSw1 := hSw.1; have hSw2 := hSw.2; clear hSw)); go_simp; all_goals (with_reducible rfl)
            (try simp only [Act.put, List.setIfInBounds_toArray, List.set_cons_zero, List.set_cons_succ])
            refine wpAnyH_take (i := 10) (oi := { dst := some 65, op := Go.Op.indexAddr 22 (Go.Operand.tmp 63) (Go.Operand.tmp 64), type := 0, pos := "law.go:60", after := #[{ on := 8, ground := Go.Ground.data }, { on := 9, ground := Go.Ground.data }, { on := 2, ground := Go.Ground.guard }], guard := some (2, true) }) (v := ?_) rfl (by kernel_rfl) (by kernel_rfl) (by kernel_rfl) (fun _ _ _ h => h) (Or.inl ⟨by rfl, ?hy10⟩) (by assumption) ?_
            case hy10 => intro w_ hSw; (try dsimp only at hSw); (try (have hSw1 := hSw.1; have hSw2 := hSw.2; clear hSw)); go_simp; all_goals (with_reducible rfl)
            (try simp only [Act.put, List.setIfInBounds_toArray, List.set_cons_zero, List.set_cons_succ])
            refine wpAnyH_take (i := 11) (oi := { dst := some 66, op := Go.Op.load 9 (Go.Operand.tmp 65), type := 9, pos := "law.go:60", after := #[{ on := 10, ground := Go.Ground.data }, { on := 2, ground := Go.Ground.guard }], guard := some (2, true) }) (v := ?_) rfl (by kernel_rfl) (by kernel_rfl) (by kernel_rfl) (fun _ _ _ h => h) (Or.inl ⟨by rfl, ?hy11⟩) (by assumption) ?_
            case hy11 => intro w_ hSw; (try dsimp only at hSw); (try (have hSw1 := hSw.1; have hSw2 := hSw.2; clear hSw)); go_simp; all_goals (with_reducible rfl)
            (try simp only [Act.put, List.setIfInBounds_toArray, List.set_cons_zero, List.set_cons_succ])
            refine wpAnyH_take (i := 12) (oi := { dst := some 67, op := Go.Op.binOp Go.BinOp.geq 9 (Go.Operand.tmp 62) (Go.Operand.tmp 66) 9, type := 4, pos := "law.go:60", after := #[{ on := 7, ground := Go.Ground.data }, { on := 11, ground := Go.Ground.data }, { on := 2, ground := Go.Ground.guard }], guard := some (2, true) }) (v := ?_) rfl (by kernel_rfl) (by kernel_rfl) (by kernel_rfl) (fun _ _ _ h => h) (Or.inl ⟨by rfl, ?hy12⟩) (by assumption) ?_
            case hy12 => intro w_ hSw; (try dsimp only at hSw); (try (have hSw1 := hSw.1; have hSw2 := hSw.2; clear hSw)); go_simp; all_goals (with_reducible rfl)
            (try simp only [Act.put, List.setIfInBounds_toArray, List.set_cons_zero, List.set_cons_succ])
            refine wpAnyH_take (i := 13) (oi := { dst := some 68, op := Go.Op.pick (Go.Operand.tmp 57) (Go.Operand.tmp 67) (Go.Operand.const (Go.Value.bool false)), type := 4, pos := "law.go:60", after := #[{ on := 2, ground := Go.Ground.data }, { on := 12, ground := Go.Ground.data }], guard := none }) (v := ?_) rfl (by kernel_rfl) (by kernel_rfl) (by kernel_rfl) (fun _ _ _ h => h) (Or.inl ⟨by rfl, ?hy13⟩) (by assumption) ?_
            case hy13 => intro w_ hSw; (try dsimp only at hSw); (try (have hSw1 := hSw.1; have hSw2 := hSw.2; clear hSw)); go_simp; all_goals (with_reducible rfl)
            (try simp only [Act.put, List.setIfInBounds_toArray, List.set_cons_zero, List.set_cons_succ])
            refine wpAnyH_take (i := 14) (oi := { dst := some 69, op := Go.Op.move (Go.Operand.tmp 68), type := 4, pos := "law.go:60", after := #[{ on := 13, ground := Go.Ground.data }, { on := 2, ground := Go.Ground.chain }], guard := none }) (v := ?_) rfl (by kernel_rfl) (by kernel_rfl) (by kernel_rfl) (fun _ _ _ h => h) (Or.inl ⟨by rfl, ?hy14⟩) (by assumption) ?_
            case hy14 => intro w_ hSw; (try dsimp only at hSw); (try (have hSw1 := hSw.1; have hSw2 := hSw.2; clear hSw)); go_simp; all_goals (with_reducible rfl)
            (try simp only [Act.put, List.setIfInBounds_toArray, List.set_cons_zero, List.set_cons_succ])
            refine wpAnyH_take (i := 15) (oi := { dst := some 70, op := Go.Op.move (Go.Operand.tmp 0), type := 22, pos := "law.go:60", after := #[{ on := 14, ground := Go.Ground.guard }], guard := some (14, false) }) (v := ?_) rfl (by kernel_rfl) (by kernel_rfl) (by kernel_rfl) (fun _ _ _ h => h) (Or.inl ⟨by rfl, ?hy15⟩) (by assumption) ?_
            case hy15 => intro w_ hSw; (try dsimp only at hSw); (try (have hSw1 := hSw.1; have hSw2 := hSw.2; clear hSw)); go_simp; all_goals (with_reducible rfl)
            (try simp only [Act.put, List.setIfInBounds_toArray, List.set_cons_zero, List.set_cons_succ])
            refine wpAnyH_take (i := 16) (oi := { dst := some 71, op := Go.Op.move (Go.Operand.tmp 5), type := 22, pos := "law.go:60", after := #[{ on := 14, ground := Go.Ground.guard }], guard := some (14, false) }) (v := ?_) rfl (by kernel_rfl) (by kernel_rfl) (by kernel_rfl) (fun _ _ _ h => h) (Or.inl ⟨by rfl, ?hy16⟩) (by assumption) ?_
            case hy16 => intro w_ hSw; (try dsimp only at hSw); (try (have hSw1 := hSw.1; have hSw2 := hSw.2; clear hSw)); go_simp; all_goals (with_reducible rfl)
            (try simp only [Act.put, List.setIfInBounds_toArray, List.set_cons_zero, List.set_cons_succ])
            refine wpAnyH_take (i := 17) (oi := { dst := some 72, op := Go.Op.move (Go.Operand.tmp 6), type := 3, pos := "law.go:60", after := #[{ on := 14, ground := Go.Ground.guard }], guard := some (14, false) }) (v := ?_) rfl (by kernel_rfl) (by kernel_rfl) (by kernel_rfl) (fun _ _ _ h => h) (Or.inl ⟨by rfl, ?hy17⟩) (by assumption) ?_
            case hy17 => intro w_ hSw; (try dsimp only at hSw); (try (have hSw1 := hSw.1; have hSw2 := hSw.2; clear hSw)); go_simp; all_goals (with_reducible rfl)
            (try simp only [Act.put, List.setIfInBounds_toArray, List.set_cons_zero, List.set_cons_succ])
            refine wpAnyH_take (i := 18) (oi := { dst := some 73, op := Go.Op.indexAddr 22 (Go.Operand.tmp 71) (Go.Operand.tmp 72), type := 0, pos := "law.go:60", after := #[{ on := 16, ground := Go.Ground.data }, { on := 17, ground := Go.Ground.data }, { on := 14, ground := Go.Ground.guard }], guard := some (14, false) }) (v := ?_) rfl (by kernel_rfl) (by kernel_rfl) (by kernel_rfl) (fun _ _ _ h => h) (Or.inl ⟨by rfl, ?hy18⟩) (by assumption) ?_
            case hy18 => intro w_ hSw; (try dsimp only at hSw); (try (have hSw1 := hSw.1; have hSw2 := hSw.2; clear hSw)); go_simp; all_goals (with_reducible rfl)
            (try simp only [Act.put, List.setIfInBounds_toArray, List.set_cons_zero, List.set_cons_succ])
            refine wpAnyH_take (i := 19) (oi := { dst := some 74, op := Go.Op.load 9 (Go.Operand.tmp 73), type := 9, pos := "law.go:60", after := #[{ on := 18, ground := Go.Ground.data }, { on := 14, ground := Go.Ground.guard }], guard := some (14, false) }) (v := ?_) rfl (by kernel_rfl) (by kernel_rfl) (by kernel_rfl) (fun _ _ _ h => h) (Or.inl ⟨by rfl, ?hy19⟩) (by assumption) ?_
            case hy19 => intro w_ hSw; (try dsimp only at hSw); (try (have hSw1 := hSw.1; have hSw2 := hSw.2; clear hSw)); go_simp; all_goals (with_reducible rfl)
            (try simp only [Act.put, List.setIfInBounds_toArray, List.set_cons_zero, List.set_cons_succ])
            refine wpAnyH_ready (rs := [20]) (by kernel_rfl) (by simp) ?_
            refine AllReadyH.cons (o := { dst := some 75, op := Go.Op.call { callee := Go.Callee.value (Go.Operand.func 30), args := #[Go.Operand.tmp 70, Go.Operand.tmp 74], argTypes := #[22, 9] }, type := 3, pos := "law.go:60", after := #[{ on := 15, ground := Go.Ground.data }, { on := 19, ground := Go.Ground.data }, { on := 14, ground := Go.Ground.chain }, { on := 14, ground := Go.Ground.guard }], guard := some (14, false) }) rfl (fun K hK => ?_) AllReadyH.nil
            go_simp
            go_at_call 30
            ((with_reducible refine (semblanceref02_Place.calls k A0 c0 l0 xi p _ (by repeat (first | exact HC0.out | apply Kd.C_drew | apply Kd.C_drewN)) hc0 HP.out).mono ?_); rintro e w' ⟨rfl, ⟨m3, rfl⟩⟩)
            (try go_wp2_with fail)
            refine hK.out _ _ (by (try dsimp only); exact ⟨(by repeat (first | (with_reducible exact hXI.out) | (with_reducible apply semblancelaw02_NamesUnion.dr_cell) | (with_reducible apply semblancelaw02_NamesUnion.drN_cell))), (by repeat (first | (with_reducible exact hXJ.out) | (with_reducible apply semblancelaw02_NamesUnion.dr_cell) | (with_reducible apply semblancelaw02_NamesUnion.drN_cell)))⟩) (fun hHeld2 => ?_)
            clear hK K hHeld
            have hHeld := hHeld2
            clear hHeld2
            (try simp only [Act.put, List.setIfInBounds_toArray, List.set_cons_zero, List.set_cons_succ])
            refine wpAnyH_take (i := 21) (oi := { dst := some 76, op := Go.Op.binOp Go.BinOp.lss 3 (Go.Operand.tmp 75) (Go.Operand.const (Go.Value.int Go.IntKind.i64 0)) 3, type := 4, pos := "law.go:60", after := #[{ on := 20, ground := Go.Ground.data }, { on := 14, ground := Go.Ground.guard }], guard := some (14, false) }) (v := ?_) rfl (by kernel_rfl) (by kernel_rfl) (by kernel_rfl) (fun _ _ _ h => h) (Or.inl ⟨by rfl, ?hy21⟩) (by assumption) ?_
            case hy21 => intro w_ hSw; (try dsimp only at hSw); (try (have hSw1 := hSw.1; have hSw2 := hSw.2; clear hSw)); go_simp; all_goals (with_reducible rfl)
            (try simp only [Act.put, List.setIfInBounds_toArray, List.set_cons_zero, List.set_cons_succ])
            refine wpAnyH_take (i := 22) (oi := { dst := some 77, op := Go.Op.move (Go.Operand.tmp 76), type := 4, pos := "law.go:60", after := #[{ on := 21, ground := Go.Ground.data }, { on := 20, ground := Go.Ground.chain }, { on := 14, ground := Go.Ground.guard }], guard := some (14, false) }) (v := ?_) rfl (by kernel_rfl) (by kernel_rfl) (by kernel_rfl) (fun _ _ _ h => h) (Or.inl ⟨by rfl, ?hy22⟩) (by assumption) ?_
            case hy22 => intro w_ hSw; (try dsimp only at hSw); (try (have hSw1 := hSw.1; have hSw2 := hSw.2; clear hSw)); go_simp; all_goals (with_reducible rfl)
            (try simp only [Act.put, List.setIfInBounds_toArray, List.set_cons_zero, List.set_cons_succ])
            refine wpAnyH_take (i := 23) (oi := { dst := some 78, op := Go.Op.move (Go.Operand.tmp 1), type := 22, pos := "law.go:60", after := #[{ on := 22, ground := Go.Ground.guard }], guard := some (22, true) }) (v := undef) rfl (by kernel_rfl) (by kernel_rfl) (by kernel_rfl) (fun _ _ _ h => h) (Or.inr ⟨by rfl, rfl⟩) (by assumption) ?_
            (try simp only [Act.put, List.setIfInBounds_toArray, List.set_cons_zero, List.set_cons_succ])
            refine wpAnyH_take (i := 24) (oi := { dst := some 79, op := Go.Op.move (Go.Operand.tmp 5), type := 22, pos := "law.go:60", after := #[{ on := 22, ground := Go.Ground.guard }], guard := some (22, true) }) (v := undef) rfl (by kernel_rfl) (by kernel_rfl) (by kernel_rfl) (fun _ _ _ h => h) (Or.inr ⟨by rfl, rfl⟩) (by assumption) ?_
            (try simp only [Act.put, List.setIfInBounds_toArray, List.set_cons_zero, List.set_cons_succ])
            refine wpAnyH_take (i := 25) (oi := { dst := some 80, op := Go.Op.move (Go.Operand.tmp 6), type := 3, pos := "law.go:60", after := #[{ on := 22, ground := Go.Ground.guard }], guard := some (22, true) }) (v := undef) rfl (by kernel_rfl) (by kernel_rfl) (by kernel_rfl) (fun _ _ _ h => h) (Or.inr ⟨by rfl, rfl⟩) (by assumption) ?_
            (try simp only [Act.put, List.setIfInBounds_toArray, List.set_cons_zero, List.set_cons_succ])
            refine wpAnyH_take (i := 26) (oi := { dst := some 81, op := Go.Op.indexAddr 22 (Go.Operand.tmp 79) (Go.Operand.tmp 80), type := 0, pos := "law.go:60", after := #[{ on := 24, ground := Go.Ground.data }, { on := 25, ground := Go.Ground.data }, { on := 22, ground := Go.Ground.guard }], guard := some (22, true) }) (v := undef) rfl (by kernel_rfl) (by kernel_rfl) (by kernel_rfl) (fun _ _ _ h => h) (Or.inr ⟨by rfl, rfl⟩) (by assumption) ?_
            (try simp only [Act.put, List.setIfInBounds_toArray, List.set_cons_zero, List.set_cons_succ])
            refine wpAnyH_take (i := 27) (oi := { dst := some 82, op := Go.Op.load 9 (Go.Operand.tmp 81), type := 9, pos := "law.go:60", after := #[{ on := 26, ground := Go.Ground.data }, { on := 22, ground := Go.Ground.guard }], guard := some (22, true) }) (v := undef) rfl (by kernel_rfl) (by kernel_rfl) (by kernel_rfl) (fun _ _ _ h => h) (Or.inr ⟨by rfl, rfl⟩) (by assumption) ?_
            (try simp only [Act.put, List.setIfInBounds_toArray, List.set_cons_zero, List.set_cons_succ])
            refine wpAnyH_take (i := 28) (oi := { dst := some 83, op := Go.Op.call { callee := Go.Callee.value (Go.Operand.func 30), args := #[Go.Operand.tmp 78, Go.Operand.tmp 82], argTypes := #[22, 9] }, type := 3, pos := "law.go:60", after := #[{ on := 23, ground := Go.Ground.data }, { on := 27, ground := Go.Ground.data }, { on := 22, ground := Go.Ground.chain }, { on := 22, ground := Go.Ground.guard }], guard := some (22, true) }) (v := undef) rfl (by kernel_rfl) (by kernel_rfl) (by kernel_rfl) (fun _ _ _ h => h) (Or.inr ⟨by rfl, rfl⟩) (by assumption) ?_
            (try simp only [Act.put, List.setIfInBounds_toArray, List.set_cons_zero, List.set_cons_succ])
            refine wpAnyH_take (i := 29) (oi := { dst := some 84, op := Go.Op.binOp Go.BinOp.lss 3 (Go.Operand.tmp 83) (Go.Operand.const (Go.Value.int Go.IntKind.i64 0)) 3, type := 4, pos := "law.go:60", after := #[{ on := 28, ground := Go.Ground.data }, { on := 22, ground := Go.Ground.guard }], guard := some (22, true) }) (v := undef) rfl (by kernel_rfl) (by kernel_rfl) (by kernel_rfl) (fun _ _ _ h => h) (Or.inr ⟨by rfl, rfl⟩) (by assumption) ?_
            (try simp only [Act.put, List.setIfInBounds_toArray, List.set_cons_zero, List.set_cons_succ])
            refine wpAnyH_take (i := 30) (oi := { dst := some 85, op := Go.Op.pick (Go.Operand.tmp 77) (Go.Operand.tmp 84) (Go.Operand.const (Go.Value.bool false)), type := 4, pos := "law.go:60", after := #[{ on := 22, ground := Go.Ground.data }, { on := 29, ground := Go.Ground.data }, { on := 14, ground := Go.Ground.guard }], guard := some (14, false) }) (v := ?_) rfl (by kernel_rfl) (by kernel_rfl) (by kernel_rfl) (fun _ _ _ h => h) (Or.inl ⟨by rfl, ?hy30⟩) (by assumption) ?_
            case hy30 => intro w_ hSw; (try dsimp only at hSw); (try (have hSw1 := hSw.1; have hSw2 := hSw.2; clear hSw)); go_simp; all_goals (with_reducible rfl)
            (try simp only [Act.put, List.setIfInBounds_toArray, List.set_cons_zero, List.set_cons_succ])
            refine wpAnyH_take (i := 31) (oi := { dst := some 86, op := Go.Op.pick (Go.Operand.tmp 69) (Go.Operand.const (Go.Value.bool true)) (Go.Operand.tmp 85), type := 4, pos := "law.go:60", after := #[{ on := 14, ground := Go.Ground.data }, { on := 30, ground := Go.Ground.data }], guard := none }) (v := ?_) rfl (by kernel_rfl) (by kernel_rfl) (by kernel_rfl) (fun _ _ _ h => h) (Or.inl ⟨by rfl, ?hy31⟩) (by assumption) ?_
            case hy31 => intro w_ hSw; (try dsimp only at hSw); (try (have hSw1 := hSw.1; have hSw2 := hSw.2; clear hSw)); go_simp; all_goals (with_reducible rfl)
            (try simp only [Act.put, List.setIfInBounds_toArray, List.set_cons_zero, List.set_cons_succ])
            refine wpAnyH_done (by kernel_rfl) ?_ _
            clear hHeld
            go_wp2_with fail
            go_roundg (u.length - (j + 1 + 1))
            case measure => have := HK.out; omega
            case rel => exact ⟨_, (j + 1) + 1, rfl, ⟨rfl⟩, ⟨by omega⟩, by go_num, ⟨(by repeat (first | exact HC0.out | apply Kd.C_drew | apply Kd.C_drewN))⟩, ⟨(by repeat (first | exact HC1.out | apply Kd.C_drew | apply Kd.C_drewN))⟩, ⟨(by repeat (first | exact HCU.out | apply Kd.C_drew | apply Kd.C_drewN))⟩, ⟨by repeat (first | exact HB.out | apply below_drew | apply pw_below_drewN)⟩⟩
          · have HP := Aside0.mk hp
            have HQ := Aside0.mk hq
            have dp : decide (p < 0) = true := decide_eq_true hp0
            have dq : decide (q < 0) = false := decide_eq_false (by omega)
            clear hp hq
            as_aux_lemma =>
            go_wp2_with fail
            refine wp_region_held_drew (S := fun w' => w'.cell? { block := ad.block, off := ad.off + (j + 1) } = some (.string xi) ∧ w'.cell? (ad.add j) = some (.string xj)) (by kernel_rfl) (by exact ⟨(by repeat (first | (with_reducible exact hXI.out) | (with_reducible apply semblancelaw02_NamesUnion.dr_cell) | (with_reducible apply semblancelaw02_NamesUnion.drN_cell))), (by repeat (first | (with_reducible exact hXJ.out) | (with_reducible apply semblancelaw02_NamesUnion.dr_cell) | (with_reducible apply semblancelaw02_NamesUnion.drN_cell)))⟩) (fun hHeld => ?_)
            refine wpAnyH_take (i := 0) (oi := { dst := some 55, op := Go.Op.move (Go.Operand.tmp 6), type := 3, pos := "law.go:60", after := #[], guard := none }) (v := ?_) rfl (by kernel_rfl) (by kernel_rfl) (by kernel_rfl) (fun _ _ _ h => h) (Or.inl ⟨by rfl, ?hy0⟩) (by assumption) ?_
            case hy0 => intro w_ hSw; (try dsimp only at hSw); (try (have hSw1 := hSw.1; have hSw2 := hSw.2; clear hSw)); go_simp; all_goals (with_reducible rfl)
            (try simp only [Act.put, List.setIfInBounds_toArray, List.set_cons_zero, List.set_cons_succ])
            refine wpAnyH_take (i := 1) (oi := { dst := some 56, op := Go.Op.binOp Go.BinOp.gtr 3 (Go.Operand.tmp 55) (Go.Operand.const (Go.Value.int Go.IntKind.i64 0)) 3, type := 4, pos := "law.go:60", after := #[{ on := 0, ground := Go.Ground.data }], guard := none }) (v := ?_) rfl (by kernel_rfl) (by kernel_rfl) (by kernel_rfl) (fun _ _ _ h => h) (Or.inl ⟨by rfl, ?hy1⟩) (by assumption) ?_
            case hy1 => intro w_ hSw; (try dsimp only at hSw); (try (have hSw1 := hSw.1; have hSw2 := hSw.2; clear hSw)); go_simp; all_goals (with_reducible rfl)
            (try simp only [Act.put, List.setIfInBounds_toArray, List.set_cons_zero, List.set_cons_succ])
            refine wpAnyH_take (i := 2) (oi := { dst := some 57, op := Go.Op.move (Go.Operand.tmp 56), type := 4, pos := "law.go:60", after := #[{ on := 1, ground := Go.Ground.data }], guard := none }) (v := ?_) rfl (by kernel_rfl) (by kernel_rfl) (by kernel_rfl) (fun _ _ _ h => h) (Or.inl ⟨by rfl, ?hy2⟩) (by assumption) ?_
            case hy2 => intro w_ hSw; (try dsimp only at hSw); (try (have hSw1 := hSw.1; have hSw2 := hSw.2; clear hSw)); go_simp; all_goals (with_reducible rfl)
            (try simp only [Act.put, List.setIfInBounds_toArray, List.set_cons_zero, List.set_cons_succ])
            refine wpAnyH_take (i := 3) (oi := { dst := some 58, op := Go.Op.move (Go.Operand.tmp 5), type := 22, pos := "law.go:60", after := #[{ on := 2, ground := Go.Ground.guard }], guard := some (2, true) }) (v := ?_) rfl (by kernel_rfl) (by kernel_rfl) (by kernel_rfl) (fun _ _ _ h => h) (Or.inl ⟨by rfl, ?hy3⟩) (by assumption) ?_
            case hy3 => intro w_ hSw; (try dsimp only at hSw); (try (have hSw1 := hSw.1; have hSw2 := hSw.2; clear hSw)); go_simp; all_goals (with_reducible rfl)
            (try simp only [Act.put, List.setIfInBounds_toArray, List.set_cons_zero, List.set_cons_succ])
            refine wpAnyH_take (i := 4) (oi := { dst := some 59, op := Go.Op.move (Go.Operand.tmp 6), type := 3, pos := "law.go:60", after := #[{ on := 2, ground := Go.Ground.guard }], guard := some (2, true) }) (v := ?_) rfl (by kernel_rfl) (by kernel_rfl) (by kernel_rfl) (fun _ _ _ h => h) (Or.inl ⟨by rfl, ?hy4⟩) (by assumption) ?_
            case hy4 => intro w_ hSw; (try dsimp only at hSw); (try (have hSw1 := hSw.1; have hSw2 := hSw.2; clear hSw)); go_simp; all_goals (with_reducible rfl)
            (try simp only [Act.put, List.setIfInBounds_toArray, List.set_cons_zero, List.set_cons_succ])
            refine wpAnyH_take (i := 5) (oi := { dst := some 60, op := Go.Op.binOp Go.BinOp.sub 3 (Go.Operand.tmp 59) (Go.Operand.const (Go.Value.int Go.IntKind.i64 1)) 3, type := 3, pos := "law.go:60", after := #[{ on := 4, ground := Go.Ground.data }, { on := 2, ground := Go.Ground.guard }], guard := some (2, true) }) (v := ?_) rfl (by kernel_rfl) (by kernel_rfl) (by kernel_rfl) (fun _ _ _ h => h) (Or.inl ⟨by rfl, ?hy5⟩) (by assumption) ?_
            case hy5 => intro w_ hSw; (try dsimp only at hSw); (try (have hSw1 := hSw.1; have hSw2 := hSw.2; clear hSw)); go_simp; all_goals (with_reducible rfl)
            (try simp only [Act.put, List.setIfInBounds_toArray, List.set_cons_zero, List.set_cons_succ])
            refine wpAnyH_take (i := 6) (oi := { dst := some 61, op := Go.Op.indexAddr 22 (Go.Operand.tmp 58) (Go.Operand.tmp 60), type := 0, pos := "law.go:60", after := #[{ on := 3, ground := Go.Ground.data }, { on := 5, ground := Go.Ground.data }, { on := 2, ground := Go.Ground.guard }], guard := some (2, true) }) (v := ?_) rfl (by kernel_rfl) (by kernel_rfl) (by kernel_rfl) (fun _ _ _ h => h) (Or.inl ⟨by rfl, ?hy6⟩) (by assumption) ?_
            case hy6 => intro w_ hSw; (try dsimp only at hSw); (try (have hSw1 := hSw.1; have hSw2 := hSw.2; clear hSw)); go_simp; all_goals (with_reducible rfl)
            (try simp only [Act.put, List.setIfInBounds_toArray, List.set_cons_zero, List.set_cons_succ])
            refine wpAnyH_take (i := 7) (oi := { dst := some 62, op := Go.Op.load 9 (Go.Operand.tmp 61), type := 9, pos := "law.go:60", after := #[{ on := 6, ground := Go.Ground.data }, { on := 2, ground := Go.Ground.guard }], guard := some (2, true) }) (v := ?_) rfl (by kernel_rfl) (by kernel_rfl) (by kernel_rfl) (fun _ _ _ h => h) (Or.inl ⟨by rfl, ?hy7⟩) (by assumption) ?_
            case hy7 => intro w_ hSw; (try dsimp only at hSw); (try (have hSw1 := hSw.1; have hSw2 := hSw.2; clear hSw)); go_simp; all_goals (with_reducible rfl)
            (try simp only [Act.put, List.setIfInBounds_toArray, List.set_cons_zero, List.set_cons_succ])
            refine wpAnyH_take (i := 8) (oi := { dst := some 63, op := Go.Op.move (Go.Operand.tmp 5), type := 22, pos := "law.go:60", after := #[{ on := 2, ground := Go.Ground.guard }], guard := some (2, true) }) (v := ?_) rfl (by kernel_rfl) (by kernel_rfl) (by kernel_rfl) (fun _ _ _ h => h) (Or.inl ⟨by rfl, ?hy8⟩) (by assumption) ?_
            case hy8 => intro w_ hSw; (try dsimp only at hSw); (try (have hSw1 := hSw.1; have hSw2 := hSw.2; clear hSw)); go_simp; all_goals (with_reducible rfl)
            (try simp only [Act.put, List.setIfInBounds_toArray, List.set_cons_zero, List.set_cons_succ])
            refine wpAnyH_take (i := 9) (oi := { dst := some 64, op := Go.Op.move (Go.Operand.tmp 6), type := 3, pos := "law.go:60", after := #[{ on := 2, ground := Go.Ground.guard }], guard := some (2, true) }) (v := ?_) rfl (by kernel_rfl) (by kernel_rfl) (by kernel_rfl) (fun _ _ _ h => h) (Or.inl ⟨by rfl, ?hy9⟩) (by assumption) ?_
            case hy9 => intro w_ hSw; (try dsimp only at hSw); (try (have hSw1 := hSw.1; have hSw2 := hSw.2; clear hSw)); go_simp; all_goals (with_reducible rfl)
            (try simp only [Act.put, List.setIfInBounds_toArray, List.set_cons_zero, List.set_cons_succ])
            refine wpAnyH_take (i := 10) (oi := { dst := some 65, op := Go.Op.indexAddr 22 (Go.Operand.tmp 63) (Go.Operand.tmp 64), type := 0, pos := "law.go:60", after := #[{ on := 8, ground := Go.Ground.data }, { on := 9, ground := Go.Ground.data }, { on := 2, ground := Go.Ground.guard }], guard := some (2, true) }) (v := ?_) rfl (by kernel_rfl) (by kernel_rfl) (by kernel_rfl) (fun _ _ _ h => h) (Or.inl ⟨by rfl, ?hy10⟩) (by assumption) ?_
            case hy10 => intro w_ hSw; (try dsimp only at hSw); (try (have hSw1 := hSw.1; have hSw2 := hSw.2; clear hSw)); go_simp; all_goals (with_reducible rfl)
            (try simp only [Act.put, List.setIfInBounds_toArray, List.set_cons_zero, List.set_cons_succ])
            refine wpAnyH_take (i := 11) (oi := { dst := some 66, op := Go.Op.load 9 (Go.Operand.tmp 65), type := 9, pos := "law.go:60", after := #[{ on := 10, ground := Go.Ground.data }, { on := 2, ground := Go.Ground.guard }], guard := some (2, true) }) (v := ?_) rfl (by kernel_rfl) (by kernel_rfl) (by kernel_rfl) (fun _ _ _ h => h) (Or.inl ⟨by rfl, ?hy11⟩) (by assumption) ?_
            case hy11 => intro w_ hSw; (try dsimp only at hSw); (try (have hSw1 := hSw.1; have hSw2 := hSw.2; clear hSw)); go_simp; all_goals (with_reducible rfl)
            (try simp only [Act.put, List.setIfInBounds_toArray, List.set_cons_zero, List.set_cons_succ])
            refine wpAnyH_take (i := 12) (oi := { dst := some 67, op := Go.Op.binOp Go.BinOp.geq 9 (Go.Operand.tmp 62) (Go.Operand.tmp 66) 9, type := 4, pos := "law.go:60", after := #[{ on := 7, ground := Go.Ground.data }, { on := 11, ground := Go.Ground.data }, { on := 2, ground := Go.Ground.guard }], guard := some (2, true) }) (v := ?_) rfl (by kernel_rfl) (by kernel_rfl) (by kernel_rfl) (fun _ _ _ h => h) (Or.inl ⟨by rfl, ?hy12⟩) (by assumption) ?_
            case hy12 => intro w_ hSw; (try dsimp only at hSw); (try (have hSw1 := hSw.1; have hSw2 := hSw.2; clear hSw)); go_simp; all_goals (with_reducible rfl)
            (try simp only [Act.put, List.setIfInBounds_toArray, List.set_cons_zero, List.set_cons_succ])
            refine wpAnyH_take (i := 13) (oi := { dst := some 68, op := Go.Op.pick (Go.Operand.tmp 57) (Go.Operand.tmp 67) (Go.Operand.const (Go.Value.bool false)), type := 4, pos := "law.go:60", after := #[{ on := 2, ground := Go.Ground.data }, { on := 12, ground := Go.Ground.data }], guard := none }) (v := ?_) rfl (by kernel_rfl) (by kernel_rfl) (by kernel_rfl) (fun _ _ _ h => h) (Or.inl ⟨by rfl, ?hy13⟩) (by assumption) ?_
            case hy13 => intro w_ hSw; (try dsimp only at hSw); (try (have hSw1 := hSw.1; have hSw2 := hSw.2; clear hSw)); go_simp; all_goals (with_reducible rfl)
            (try simp only [Act.put, List.setIfInBounds_toArray, List.set_cons_zero, List.set_cons_succ])
            refine wpAnyH_take (i := 14) (oi := { dst := some 69, op := Go.Op.move (Go.Operand.tmp 68), type := 4, pos := "law.go:60", after := #[{ on := 13, ground := Go.Ground.data }, { on := 2, ground := Go.Ground.chain }], guard := none }) (v := ?_) rfl (by kernel_rfl) (by kernel_rfl) (by kernel_rfl) (fun _ _ _ h => h) (Or.inl ⟨by rfl, ?hy14⟩) (by assumption) ?_
            case hy14 => intro w_ hSw; (try dsimp only at hSw); (try (have hSw1 := hSw.1; have hSw2 := hSw.2; clear hSw)); go_simp; all_goals (with_reducible rfl)
            (try simp only [Act.put, List.setIfInBounds_toArray, List.set_cons_zero, List.set_cons_succ])
            refine wpAnyH_take (i := 15) (oi := { dst := some 70, op := Go.Op.move (Go.Operand.tmp 0), type := 22, pos := "law.go:60", after := #[{ on := 14, ground := Go.Ground.guard }], guard := some (14, false) }) (v := ?_) rfl (by kernel_rfl) (by kernel_rfl) (by kernel_rfl) (fun _ _ _ h => h) (Or.inl ⟨by rfl, ?hy15⟩) (by assumption) ?_
            case hy15 => intro w_ hSw; (try dsimp only at hSw); (try (have hSw1 := hSw.1; have hSw2 := hSw.2; clear hSw)); go_simp; all_goals (with_reducible rfl)
            (try simp only [Act.put, List.setIfInBounds_toArray, List.set_cons_zero, List.set_cons_succ])
            refine wpAnyH_take (i := 16) (oi := { dst := some 71, op := Go.Op.move (Go.Operand.tmp 5), type := 22, pos := "law.go:60", after := #[{ on := 14, ground := Go.Ground.guard }], guard := some (14, false) }) (v := ?_) rfl (by kernel_rfl) (by kernel_rfl) (by kernel_rfl) (fun _ _ _ h => h) (Or.inl ⟨by rfl, ?hy16⟩) (by assumption) ?_
            case hy16 => intro w_ hSw; (try dsimp only at hSw); (try (have hSw1 := hSw.1; have hSw2 := hSw.2; clear hSw)); go_simp; all_goals (with_reducible rfl)
            (try simp only [Act.put, List.setIfInBounds_toArray, List.set_cons_zero, List.set_cons_succ])
            refine wpAnyH_take (i := 17) (oi := { dst := some 72, op := Go.Op.move (Go.Operand.tmp 6), type := 3, pos := "law.go:60", after := #[{ on := 14, ground := Go.Ground.guard }], guard := some (14, false) }) (v := ?_) rfl (by kernel_rfl) (by kernel_rfl) (by kernel_rfl) (fun _ _ _ h => h) (Or.inl ⟨by rfl, ?hy17⟩) (by assumption) ?_
            case hy17 => intro w_ hSw; (try dsimp only at hSw); (try (have hSw1 := hSw.1; have hSw2 := hSw.2; clear hSw)); go_simp; all_goals (with_reducible rfl)
            (try simp only [Act.put, List.setIfInBounds_toArray, List.set_cons_zero, List.set_cons_succ])
            refine wpAnyH_take (i := 18) (oi := { dst := some 73, op := Go.Op.indexAddr 22 (Go.Operand.tmp 71) (Go.Operand.tmp 72), type := 0, pos := "law.go:60", after := #[{ on := 16, ground := Go.Ground.data }, { on := 17, ground := Go.Ground.data }, { on := 14, ground := Go.Ground.guard }], guard := some (14, false) }) (v := ?_) rfl (by kernel_rfl) (by kernel_rfl) (by kernel_rfl) (fun _ _ _ h => h) (Or.inl ⟨by rfl, ?hy18⟩) (by assumption) ?_
            case hy18 => intro w_ hSw; (try dsimp only at hSw); (try (have hSw1 := hSw.1; have hSw2 := hSw.2; clear hSw)); go_simp; all_goals (with_reducible rfl)
            (try simp only [Act.put, List.setIfInBounds_toArray, List.set_cons_zero, List.set_cons_succ])
            refine wpAnyH_take (i := 19) (oi := { dst := some 74, op := Go.Op.load 9 (Go.Operand.tmp 73), type := 9, pos := "law.go:60", after := #[{ on := 18, ground := Go.Ground.data }, { on := 14, ground := Go.Ground.guard }], guard := some (14, false) }) (v := ?_) rfl (by kernel_rfl) (by kernel_rfl) (by kernel_rfl) (fun _ _ _ h => h) (Or.inl ⟨by rfl, ?hy19⟩) (by assumption) ?_
            case hy19 => intro w_ hSw; (try dsimp only at hSw); (try (have hSw1 := hSw.1; have hSw2 := hSw.2; clear hSw)); go_simp; all_goals (with_reducible rfl)
            (try simp only [Act.put, List.setIfInBounds_toArray, List.set_cons_zero, List.set_cons_succ])
            refine wpAnyH_ready (rs := [20]) (by kernel_rfl) (by simp) ?_
            refine AllReadyH.cons (o := { dst := some 75, op := Go.Op.call { callee := Go.Callee.value (Go.Operand.func 30), args := #[Go.Operand.tmp 70, Go.Operand.tmp 74], argTypes := #[22, 9] }, type := 3, pos := "law.go:60", after := #[{ on := 15, ground := Go.Ground.data }, { on := 19, ground := Go.Ground.data }, { on := 14, ground := Go.Ground.chain }, { on := 14, ground := Go.Ground.guard }], guard := some (14, false) }) rfl (fun K hK => ?_) AllReadyH.nil
            go_simp
            go_at_call 30
            ((with_reducible refine (semblanceref02_Place.calls k A0 c0 l0 xi p _ (by repeat (first | exact HC0.out | apply Kd.C_drew | apply Kd.C_drewN)) hc0 HP.out).mono ?_); rintro e w' ⟨rfl, ⟨m3, rfl⟩⟩)
            (try go_wp2_with fail)
            refine hK.out _ _ (by (try dsimp only); exact ⟨(by repeat (first | (with_reducible exact hXI.out) | (with_reducible apply semblancelaw02_NamesUnion.dr_cell) | (with_reducible apply semblancelaw02_NamesUnion.drN_cell))), (by repeat (first | (with_reducible exact hXJ.out) | (with_reducible apply semblancelaw02_NamesUnion.dr_cell) | (with_reducible apply semblancelaw02_NamesUnion.drN_cell)))⟩) (fun hHeld2 => ?_)
            clear hK K hHeld
            have hHeld := hHeld2
            clear hHeld2
            (try simp only [Act.put, List.setIfInBounds_toArray, List.set_cons_zero, List.set_cons_succ])
            refine wpAnyH_take (i := 21) (oi := { dst := some 76, op := Go.Op.binOp Go.BinOp.lss 3 (Go.Operand.tmp 75) (Go.Operand.const (Go.Value.int Go.IntKind.i64 0)) 3, type := 4, pos := "law.go:60", after := #[{ on := 20, ground := Go.Ground.data }, { on := 14, ground := Go.Ground.guard }], guard := some (14, false) }) (v := ?_) rfl (by kernel_rfl) (by kernel_rfl) (by kernel_rfl) (fun _ _ _ h => h) (Or.inl ⟨by rfl, ?hy21⟩) (by assumption) ?_
            case hy21 => intro w_ hSw; (try dsimp only at hSw); (try (have hSw1 := hSw.1; have hSw2 := hSw.2; clear hSw)); go_simp; all_goals (with_reducible rfl)
            (try simp only [Act.put, List.setIfInBounds_toArray, List.set_cons_zero, List.set_cons_succ])
            refine wpAnyH_take (i := 22) (oi := { dst := some 77, op := Go.Op.move (Go.Operand.tmp 76), type := 4, pos := "law.go:60", after := #[{ on := 21, ground := Go.Ground.data }, { on := 20, ground := Go.Ground.chain }, { on := 14, ground := Go.Ground.guard }], guard := some (14, false) }) (v := ?_) rfl (by kernel_rfl) (by kernel_rfl) (by kernel_rfl) (fun _ _ _ h => h) (Or.inl ⟨by rfl, ?hy22⟩) (by assumption) ?_
            case hy22 => intro w_ hSw; (try dsimp only at hSw); (try (have hSw1 := hSw.1; have hSw2 := hSw.2; clear hSw)); go_simp; all_goals (with_reducible rfl)
            (try simp only [Act.put, List.setIfInBounds_toArray, List.set_cons_zero, List.set_cons_succ])
            refine wpAnyH_take (i := 23) (oi := { dst := some 78, op := Go.Op.move (Go.Operand.tmp 1), type := 22, pos := "law.go:60", after := #[{ on := 22, ground := Go.Ground.guard }], guard := some (22, true) }) (v := ?_) rfl (by kernel_rfl) (by kernel_rfl) (by kernel_rfl) (fun _ _ _ h => h) (Or.inl ⟨by rfl, ?hy23⟩) (by assumption) ?_
            case hy23 => intro w_ hSw; (try dsimp only at hSw); (try (have hSw1 := hSw.1; have hSw2 := hSw.2; clear hSw)); go_simp; all_goals (with_reducible rfl)
            (try simp only [Act.put, List.setIfInBounds_toArray, List.set_cons_zero, List.set_cons_succ])
            refine wpAnyH_take (i := 24) (oi := { dst := some 79, op := Go.Op.move (Go.Operand.tmp 5), type := 22, pos := "law.go:60", after := #[{ on := 22, ground := Go.Ground.guard }], guard := some (22, true) }) (v := ?_) rfl (by kernel_rfl) (by kernel_rfl) (by kernel_rfl) (fun _ _ _ h => h) (Or.inl ⟨by rfl, ?hy24⟩) (by assumption) ?_
            case hy24 => intro w_ hSw; (try dsimp only at hSw); (try (have hSw1 := hSw.1; have hSw2 := hSw.2; clear hSw)); go_simp; all_goals (with_reducible rfl)
            (try simp only [Act.put, List.setIfInBounds_toArray, List.set_cons_zero, List.set_cons_succ])
            refine wpAnyH_take (i := 25) (oi := { dst := some 80, op := Go.Op.move (Go.Operand.tmp 6), type := 3, pos := "law.go:60", after := #[{ on := 22, ground := Go.Ground.guard }], guard := some (22, true) }) (v := ?_) rfl (by kernel_rfl) (by kernel_rfl) (by kernel_rfl) (fun _ _ _ h => h) (Or.inl ⟨by rfl, ?hy25⟩) (by assumption) ?_
            case hy25 => intro w_ hSw; (try dsimp only at hSw); (try (have hSw1 := hSw.1; have hSw2 := hSw.2; clear hSw)); go_simp; all_goals (with_reducible rfl)
            (try simp only [Act.put, List.setIfInBounds_toArray, List.set_cons_zero, List.set_cons_succ])
            refine wpAnyH_take (i := 26) (oi := { dst := some 81, op := Go.Op.indexAddr 22 (Go.Operand.tmp 79) (Go.Operand.tmp 80), type := 0, pos := "law.go:60", after := #[{ on := 24, ground := Go.Ground.data }, { on := 25, ground := Go.Ground.data }, { on := 22, ground := Go.Ground.guard }], guard := some (22, true) }) (v := ?_) rfl (by kernel_rfl) (by kernel_rfl) (by kernel_rfl) (fun _ _ _ h => h) (Or.inl ⟨by rfl, ?hy26⟩) (by assumption) ?_
            case hy26 => intro w_ hSw; (try dsimp only at hSw); (try (have hSw1 := hSw.1; have hSw2 := hSw.2; clear hSw)); go_simp; all_goals (with_reducible rfl)
            (try simp only [Act.put, List.setIfInBounds_toArray, List.set_cons_zero, List.set_cons_succ])
            refine wpAnyH_take (i := 27) (oi := { dst := some 82, op := Go.Op.load 9 (Go.Operand.tmp 81), type := 9, pos := "law.go:60", after := #[{ on := 26, ground := Go.Ground.data }, { on := 22, ground := Go.Ground.guard }], guard := some (22, true) }) (v := ?_) rfl (by kernel_rfl) (by kernel_rfl) (by kernel_rfl) (fun _ _ _ h => h) (Or.inl ⟨by rfl, ?hy27⟩) (by assumption) ?_
            case hy27 => intro w_ hSw; (try dsimp only at hSw); (try (have hSw1 := hSw.1; have hSw2 := hSw.2; clear hSw)); go_simp; all_goals (with_reducible rfl)
            (try simp only [Act.put, List.setIfInBounds_toArray, List.set_cons_zero, List.set_cons_succ])
            refine wpAnyH_ready (rs := [28]) (by kernel_rfl) (by simp) ?_
            refine AllReadyH.cons (o := { dst := some 83, op := Go.Op.call { callee := Go.Callee.value (Go.Operand.func 30), args := #[Go.Operand.tmp 78, Go.Operand.tmp 82], argTypes := #[22, 9] }, type := 3, pos := "law.go:60", after := #[{ on := 23, ground := Go.Ground.data }, { on := 27, ground := Go.Ground.data }, { on := 22, ground := Go.Ground.chain }, { on := 22, ground := Go.Ground.guard }], guard := some (22, true) }) rfl (fun K hK => ?_) AllReadyH.nil
            go_simp
            go_at_call 30
            ((with_reducible refine (semblanceref02_Place.calls k A1 c1 l1 xi q _ (by repeat (first | exact HC1.out | apply Kd.C_drew | apply Kd.C_drewN)) hc1 HQ.out).mono ?_); rintro e w' ⟨rfl, ⟨m4, rfl⟩⟩)
            (try go_wp2_with fail)
            refine hK.out _ _ (by (try dsimp only); exact ⟨(by repeat (first | (with_reducible exact hXI.out) | (with_reducible apply semblancelaw02_NamesUnion.dr_cell) | (with_reducible apply semblancelaw02_NamesUnion.drN_cell))), (by repeat (first | (with_reducible exact hXJ.out) | (with_reducible apply semblancelaw02_NamesUnion.dr_cell) | (with_reducible apply semblancelaw02_NamesUnion.drN_cell)))⟩) (fun hHeld2 => ?_)
            clear hK K hHeld
            have hHeld := hHeld2
            clear hHeld2
            (try simp only [Act.put, List.setIfInBounds_toArray, List.set_cons_zero, List.set_cons_succ])
            refine wpAnyH_take (i := 29) (oi := { dst := some 84, op := Go.Op.binOp Go.BinOp.lss 3 (Go.Operand.tmp 83) (Go.Operand.const (Go.Value.int Go.IntKind.i64 0)) 3, type := 4, pos := "law.go:60", after := #[{ on := 28, ground := Go.Ground.data }, { on := 22, ground := Go.Ground.guard }], guard := some (22, true) }) (v := ?_) rfl (by kernel_rfl) (by kernel_rfl) (by kernel_rfl) (fun _ _ _ h => h) (Or.inl ⟨by rfl, ?hy29⟩) (by assumption) ?_
            case hy29 => intro w_ hSw; (try dsimp only at hSw); (try (have hSw1 := hSw.1; have hSw2 := hSw.2; clear hSw)); go_simp; all_goals (with_reducible rfl)
            (try simp only [Act.put, List.setIfInBounds_toArray, List.set_cons_zero, List.set_cons_succ])
            refine wpAnyH_take (i := 30) (oi := { dst := some 85, op := Go.Op.pick (Go.Operand.tmp 77) (Go.Operand.tmp 84) (Go.Operand.const (Go.Value.bool false)), type := 4, pos := "law.go:60", after := #[{ on := 22, ground := Go.Ground.data }, { on := 29, ground := Go.Ground.data }, { on := 14, ground := Go.Ground.guard }], guard := some (14, false) }) (v := ?_) rfl (by kernel_rfl) (by kernel_rfl) (by kernel_rfl) (fun _ _ _ h => h) (Or.inl ⟨by rfl, ?hy30⟩) (by assumption) ?_
            case hy30 => intro w_ hSw; (try dsimp only at hSw); (try (have hSw1 := hSw.1; have hSw2 := hSw.2; clear hSw)); go_simp; all_goals (with_reducible rfl)
            (try simp only [Act.put, List.setIfInBounds_toArray, List.set_cons_zero, List.set_cons_succ])
            refine wpAnyH_take (i := 31) (oi := { dst := some 86, op := Go.Op.pick (Go.Operand.tmp 69) (Go.Operand.const (Go.Value.bool true)) (Go.Operand.tmp 85), type := 4, pos := "law.go:60", after := #[{ on := 14, ground := Go.Ground.data }, { on := 30, ground := Go.Ground.data }], guard := none }) (v := ?_) rfl (by kernel_rfl) (by kernel_rfl) (by kernel_rfl) (fun _ _ _ h => h) (Or.inl ⟨by rfl, ?hy31⟩) (by assumption) ?_
            case hy31 => intro w_ hSw; (try dsimp only at hSw); (try (have hSw1 := hSw.1; have hSw2 := hSw.2; clear hSw)); go_simp; all_goals (with_reducible rfl)
            (try simp only [Act.put, List.setIfInBounds_toArray, List.set_cons_zero, List.set_cons_succ])
            refine wpAnyH_done (by kernel_rfl) ?_ _
            clear hHeld
            go_wp2_with fail
            go_roundg (u.length - (j + 1 + 1))
            case measure => have := HK.out; omega
            case rel => exact ⟨_, (j + 1) + 1, rfl, ⟨rfl⟩, ⟨by omega⟩, by go_num, ⟨(by repeat (first | exact HC0.out | apply Kd.C_drew | apply Kd.C_drewN))⟩, ⟨(by repeat (first | exact HC1.out | apply Kd.C_drew | apply Kd.C_drewN))⟩, ⟨(by repeat (first | exact HCU.out | apply Kd.C_drew | apply Kd.C_drewN))⟩, ⟨by repeat (first | exact HB.out | apply below_drew | apply pw_below_drewN)⟩⟩


end Go.Proofs.Ytfpmbognpacidaa.XU
