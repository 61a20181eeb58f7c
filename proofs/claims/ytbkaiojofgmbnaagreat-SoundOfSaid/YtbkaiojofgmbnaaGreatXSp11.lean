-- written by wip/xprint.py out of the translation
import Derived.Test.YtbkaiojofgmbnaaGreatXShort
import Derived.Test.YtbkaiojofgmbnaaGreatXSp0
import Derived.Test.YtbkaiojofgmbnaaGreatXSp5
import Derived.Test.YtbkaiojofgmbnaaGreatXSp10
namespace Go.Proofs.YtbkaiojofgmbnaaGreat.XS
open Go.Proofs.YtbkaiojofgmbnaaGreat.XShort Go.Proofs.YtbkaiojofgmbnaaGreat.XReg Go.Proofs.YtbkaiojofgmbnaaGreat.XGrow Go.RowKit Go.Proofs.YtbkaiojofgmbnaaGreatW.PrintWords Go.Proofs.YtbkaiojofgmbnaaGreatW.PrintLast Go.Proofs.YtbkaiojofgmbnaaGreatW.PrintMore
attribute [local go_sem] max2_int min2_int max_two min_two max_three min_three max_four min_four   -- for this text's walks alone
set_option linter.unusedVariables false
set_option linter.unusedSimpArgs false

/-! ### val_digits: function 71 -/
/-- a number's digits; so many at most -/
def val_digits.dg : Nat → Nat → List UInt8
  | 0, _ => []
  | f + 1, n => (if n < 10 then [] else val_digits.dg f (n / 10)) ++ [UInt8.ofNat (48 + n % 10)]
def val_digits.f (a0 : Int) : Option ByteArray := if 0 ≤ a0 ∧ a0 < 18446744073709551616 then some ⟨(val_digits.dg 20 a0.toNat).toArray⟩ else none
theorem val_digits.last {q m : Nat} {S : List UInt8} (hq : 1 ≤ q) (hm : m < 10) : val_digits.dg q m ++ S = UInt8.ofNat (48 + m % 10) :: S := by
  obtain ⟨q, rfl⟩ : ∃ p, q = p + 1 := ⟨q - 1, by omega⟩
  rw [val_digits.dg, if_pos hm]; rfl
theorem val_digits.more {q m : Nat} {S : List UInt8} (hq : 1 ≤ q) (hm : ¬ m < 10) : val_digits.dg q m ++ S = val_digits.dg (q - 1) (m / 10) ++ UInt8.ofNat (48 + m % 10) :: S := by
  obtain ⟨q, rfl⟩ : ∃ p, q = p + 1 := ⟨q - 1, by omega⟩
  rw [val_digits.dg, if_neg hm, List.append_assoc]; rfl
/-- the cells from a place on hold these bytes -/
def val_digits.held (C : Array Value) (p : Nat) (S : List UInt8) : Prop := C.size = 20 ∧ p + S.length = 20 ∧ ∀ i (h : i < S.length), C[p + i]? = some (.int .u8 (S[i].toNat : Int))
theorem val_digits.put {C : Array Value} {p : Nat} {S : List UInt8} (h : val_digits.held C (p + 1) S) (b : UInt8) : val_digits.held (C.setIfInBounds p (.int .u8 (b.toNat : Int))) p (b :: S) := by
  obtain ⟨h1, h2, h3⟩ := h
  refine ⟨by simpa using h1, by simp; omega, fun i hi => ?_⟩
  cases i with
  | zero => simp [h1, show p < 20 by omega]
  | succ i =>
    have := h3 i (by simpa using hi)
    rw [Array.getElem?_setIfInBounds, if_neg (by omega), show p + (i + 1) = p + 1 + i by omega, this]
    rfl
set_option maxHeartbeats 8000000 in
set_option maxRecDepth 100000 in
theorem val_digits.calls (a0 : Int) (r : ByteArray) (w : World) (h : val_digits.f a0 = some r) : Calls Tryz.prog 71 #[.int .u64 a0] w fun e w' => e = .returned (.string r) ∧ Below w.heap.size w w' := by
  unfold val_digits.f at h
  split at h
  case isFalse => cases h
  case isTrue hg =>
  obtain ⟨n, rfl⟩ : ∃ n : Nat, a0 = n := ⟨a0.toNat, by omega⟩
  have HR := Aside0.mk (Option.some.inj h)
  have HN := Aside0.mk (show n < 18446744073709551616 by omega)
  rw [Int.toNat_natCast] at HR
  clear h hg
  go_enter Tryz.func71, Tryz.ntmps71
  go_wp2_with (first | ((with_reducible refine gate_dst (N := 3) rfl ?_); refine box_event ?hg (N := 3) ?hd (cs := #[.int .u8 0, .int .u8 0, .int .u8 0, .int .u8 0, .int .u8 0, .int .u8 0, .int .u8 0, .int .u8 0, .int .u8 0, .int .u8 0, .int .u8 0, .int .u8 0, .int .u8 0, .int .u8 0, .int .u8 0, .int .u8 0, .int .u8 0, .int .u8 0, .int .u8 0, .int .u8 0]) (t := 129) ?hr ?_; (case hd => rfl); (case hg => rfl); (case hr => first | (go_simp; done) | (go_simp; rfl)); intro gb hg w3 hbox hb; have HB := Aside0.mk hb; have HBX := Aside0.mk hbox; have HG := Aside0.mk hg; clear hbox hb hg))
  obtain ⟨R, hR⟩ : ∃ R, val_digits.dg 20 n = R := ⟨_, rfl⟩
  rw [hR] at HR
  have HDG := Aside0.mk hR
  clear hR
  have H0 := Aside0.mk (show val_digits.held #[.int .u8 0, .int .u8 0, .int .u8 0, .int .u8 0, .int .u8 0, .int .u8 0, .int .u8 0, .int .u8 0, .int .u8 0, .int .u8 0, .int .u8 0, .int .u8 0, .int .u8 0, .int .u8 0, .int .u8 0, .int .u8 0, .int .u8 0, .int .u8 0, .int .u8 0, .int .u8 0] 20 [] from ⟨rfl, rfl, fun i h => absurd h (by simp)⟩)
  generalize #[(Value.int .u8 0), .int .u8 0, .int .u8 0, .int .u8 0, .int .u8 0, .int .u8 0, .int .u8 0, .int .u8 0, .int .u8 0, .int .u8 0, .int .u8 0, .int .u8 0, .int .u8 0, .int .u8 0, .int .u8 0, .int .u8 0, .int .u8 0, .int .u8 0, .int .u8 0, .int .u8 0] = C0 at HBX H0
  go_loopg [0, 4] 20 (fun kq v0 v4 wr => ∃ (m : Nat) (S : List UInt8) (C : Array Value), v0 = .int .u64 (m : Int) ∧ v4 = .int .i64 (kq : Int) ∧ Aside0 (m < 18446744073709551616 ∧ 1 ≤ kq ∧ kq ≤ 20 ∧ m < 10 ^ kq) ∧ Aside0 (val_digits.dg kq m ++ S = R) ∧ Aside0 (val_digits.held C kq S) ∧ Aside0 (wr.heap[gb]? = some (.cells C 129 (0, 0))) ∧ Aside0 (Below w.heap.size w wr))
  case atStart => exact ⟨n, [], C0, rfl, rfl, ⟨HN.out, by omega, Nat.le_refl _, Nat.lt_of_lt_of_le HN.out (by decide)⟩, ⟨by rw [List.append_nil]; exact HDG.out⟩, H0, HBX, HB⟩
  case round =>
    clear HDG HN H0 HBX HB
    obtain ⟨m, S, C, rfl, rfl, HM, HD, HH, HBX, HB⟩ := hrel
    have c1 : wrap64 ((gk : Int) - 1) = ((gk - 1 : Nat) : Int) := by have := HM.out; unfold wrap64; omega
    have c2 : (((gk - 1 : Nat) : Int) < 20) = True := eq_true (by have := HM.out; omega)
    have c3 : IntKind.u64.wrap ((m : Int) / 10) = ((m / 10 : Nat) : Int) := by
      have := HM.out.1
      rw [IntKind.wrap_u64]; omega
    obtain ⟨v, hv⟩ : ∃ v, C[gk - 1]? = some v := ⟨_, Array.getElem?_eq_getElem (by have := HM.out; have := HH.out.1; omega)⟩
    have hz := (blk_cell HBX.out (gk - 1)).trans hv
    have hy := blk_frozen HBX.out (gk - 1)
    clear hv
    have ks : ∀ W : World, (Instr.sliceAt 129 (.pointer (some ⟨gb, 0, none⟩)) (some (.int .i64 ((gk - 1 : Nat) : Int))) none none).run Tryz.prog W = .ok (.slice (some ⟨gb, gk - 1, none⟩) (20 - (gk - 1)) (20 - (gk - 1))) W := fun W => by
      have h1 := HM.out
      have hL : Tryz.prog.arrayLen 129 = 20 := by kernel_rfl
      rw [run_sliceAt_array_l W 129 _ (by kernel_rfl) .i64 _ (by omega) (by rw [hL]; omega), hL]
      go_simp
      intro h2; omega
    obtain ⟨b, hb⟩ : ∃ b : UInt8, UInt8.ofNat (48 + m % 10) = b := ⟨_, rfl⟩
    have hbv : (48 : Int) + (m : Int) % 10 = (b.toNat : Int) := by
      have h1 : b.toNat = (48 + m % 10) % 256 := by rw [← hb]; simp
      omega
    have HP := Aside0.mk (val_digits.put (p := gk - 1) (by rw [show gk - 1 + 1 = gk by have := HM.out; omega]; exact HH.out) b)
    by_cases hm : m < 10
    · have c4 : (((m / 10 : Nat) : Int) == 0) = true := beq_iff_eq.2 (by omega)
      have c5 : ((m : Int) / 10 == 0) = true := beq_iff_eq.2 (by omega)
      have HDD := Aside0.mk (show b :: S = R by rw [← hb, ← val_digits.last (q := gk) (by have := HM.out; omega) hm]; exact HD.out)
      clear hm hb
      have kc : (convert 130 9 (.slice (some ⟨gb, gk - 1, none⟩) (20 - (gk - 1)) (20 - (gk - 1)))).run Tryz.prog (wr.setCell ⟨gb, gk - 1, none⟩ (.int .u8 (b.toNat : Int))) = .ok (.string ⟨(b :: S).toArray⟩) (wr.setCell ⟨gb, gk - 1, none⟩ (.int .u8 (b.toNat : Int))) := by
        have hsz : (⟨(b :: S).toArray⟩ : ByteArray).size = 20 - (gk - 1) := by
          show (b :: S).toArray.size = _
          have := HP.out.2.1
          simp only [List.size_toArray]
          omega
        have h := Go.Lib.run_convert_whole (P := Tryz.prog) (wr.setCell ⟨gb, gk - 1, none⟩ (.int .u8 (b.toNat : Int))) 130 5 9 Tryz.underlying130 Tryz.underlying5 Tryz.underlying9 gb (gk - 1) ⟨(b :: S).toArray⟩ (fun i hi => by
          rw [blk_cell (blk_put HBX.out _ _ rfl) (gk - 1 + i)]
          exact HP.out.2.2 i hi) (20 - (gk - 1))
        rw [hsz] at h
        exact h
      go_wp2
      go_ret
      exact ⟨by rw [← HR.out, ← HDD.out]; rfl, below_set HB.out (by rw [HG.out]; exact Nat.le_refl _)⟩
    · have c4 : (((m / 10 : Nat) : Int) == 0) = false := beq_eq_false_iff_ne.2 (by omega)
      have c5 : ((m : Int) / 10 == 0) = false := beq_eq_false_iff_ne.2 (by omega)
      have HDD := Aside0.mk (show val_digits.dg (gk - 1) (m / 10) ++ b :: S = R by rw [← hb, ← val_digits.more (q := gk) (by have := HM.out; omega) hm]; exact HD.out)
      have HQ := Aside0.mk (show 2 ≤ gk ∧ m / 10 < 10 ^ (gk - 1) by
        have h1 := HM.out
        have h2 : gk ≠ 1 := fun e => hm (by rw [e] at h1; omega)
        have h3 := h1.2.2.2
        rw [show 10 ^ gk = 10 ^ (gk - 1) * 10 by rw [← Nat.pow_succ]; congr 1; omega] at h3
        omega)
      clear hm hb
      go_wp2_with fail
      go_roundg (gk - 1)
      case measure => have := HM.out; omega
      case rel => exact ⟨m / 10, b :: S, _, rl_, rl_, ⟨by have := HM.out; have := HQ.out; omega⟩, HDD, HP, ⟨blk_put HBX.out _ _ rfl⟩, ⟨below_set HB.out (by rw [HG.out]; exact Nat.le_refl _)⟩⟩


/-! ### val_Put: function 42 -/
def val_Put.f (a0 : Int) : Option (ByteArray) := if a0 < 0 then ((val_digits.f (IntKind.u64.wrap (-(IntKind.u64.wrap (a0))))).bind fun t258 => (if 1 + t258.size ≤ 9223372036854775807 then (some ((⟨#[45]⟩ : ByteArray) ++ t258)) else (none))) else ((val_digits.f (IntKind.u64.wrap (a0))).bind fun t259 => (some t259))
set_option maxHeartbeats 8000000 in
set_option maxRecDepth 100000 in
theorem val_Put.calls (a0 : Int) (r : ByteArray) (w : World) (h : val_Put.f a0 = some r) :
  Calls Tryz.prog 42 #[.int .i64 a0] w fun e w' => e = .returned (.string r) ∧ Below w.heap.size w w' := by
 have HB := Aside0.mk (Below.refl w.heap.size w)
 unfold val_Put.f at h
 have H := h
 clear h
 replace H := it_ H; obtain ⟨c2b0, H⟩ | ⟨c2b0, H⟩ := H
 ·replace H := bi_ H; obtain ⟨t259, A6, H⟩ := H
  obtain rfl := Option.some.inj H
  go_enter Tryz.func42, Tryz.ntmps42
  go_wp2_with (first | ((with_reducible refine gate_callee (f := 71) rfl ?_); refine gl_ (some 12) Tryz.func71 #[.int .u64 (IntKind.u64.wrap (a0))] ?_; (with_reducible refine cm_ (val_digits.calls (IntKind.u64.wrap (a0)) t259 _ A6.out) ?_); intro w7 hb; refine ⟨_, rfl, ?_⟩; replace HB := ts_ HB hb; clear hb))
  go_ret
  exact ⟨rv_, bw_⟩

 replace H := bi_ H; obtain ⟨t258, A3, H⟩ := H
 replace H := ip_ H; obtain ⟨c4, H⟩ := H
 have c4b0 := eq_true c4
 have c4b1 : decide (1 + t258.size ≤ 9223372036854775807) = true := decide_eq_true c4
 try have c4b2 : (9223372036854775807 < 1 + t258.size) = False := eq_false (Nat.not_lt.2 c4)
 obtain rfl := Option.some.inj H
 go_enter Tryz.func42, Tryz.ntmps42
 go_wp2_with (first | ((with_reducible refine gate_callee (f := 71) rfl ?_); refine gl_ (some 8) Tryz.func71 #[.int .u64 (IntKind.u64.wrap (-(IntKind.u64.wrap (a0))))] ?_; (with_reducible refine cm_ (val_digits.calls (IntKind.u64.wrap (-(IntKind.u64.wrap (a0)))) t258 _ A3.out) ?_); intro w5 hb; refine ⟨_, rfl, ?_⟩; replace HB := ts_ HB hb; clear hb))
 go_ret
 exact ⟨rv_, bw_⟩
/-! ### sound_Lines: function 24 -/
def sound_Lines.l0 : Nat → List ByteArray → List (S65) → Int → Int → Option (List ByteArray)
  | 0, _, _, _, _ => none
  | k + 1, x3, x6, x7, x8 => if x8 < x7 then (if 0 ≤ x8 then (if x8 < (x6.length : Int) then ((sound_Word.f ((rd_T65 x6 x8).f0)).bind fun t262 => ((cmp_Or_string.f (([t262, (⟨#[63]⟩ : ByteArray)] : List ByteArray))).bind fun t266 => (if t266.size + 1 ≤ 9223372036854775807 then ((val_Put.f ((rd_T65 x6 x8).f1)).bind fun t267 => (if (t266 ++ (⟨#[32]⟩ : ByteArray)).size + t267.size ≤ 9223372036854775807 then (if ((t266 ++ (⟨#[32]⟩ : ByteArray)) ++ t267).size + 1 ≤ 9223372036854775807 then ((val_Put.f ((rd_T65 x6 x8).f2)).bind fun t268 => (if (((t266 ++ (⟨#[32]⟩ : ByteArray)) ++ t267) ++ (⟨#[32]⟩ : ByteArray)).size + t268.size ≤ 9223372036854775807 then (if x3.length < 8796093022208 then (sound_Lines.l0 k (x3 ++ [(((t266 ++ (⟨#[32]⟩ : ByteArray)) ++ t267) ++ (⟨#[32]⟩ : ByteArray)) ++ t268]) x6 x7 (wrap64 (x8 + 1))) else (none)) else (none))) else (none)) else (none))) else (none)))) else (none)) else (none)) else (some x3)
def sound_Lines.f (k : Nat) (l0 : List (S65)) : Option (List ByteArray) := sound_Lines.l0 k ([] : List ByteArray) l0 (l0.length : Int) 0
theorem sound_Lines.mono_l : ∀ k, (∀ y0 y1 y2 y3, LeO (sound_Lines.l0 k y0 y1 y2 y3) (sound_Lines.l0 (k + 1) y0 y1 y2 y3))
  | 0 => fun _ _ _ _ r h => by simp [sound_Lines.l0] at h
  | k + 1 => by
    have ih0 := sound_Lines.mono_l k
    · intro y0 y1 y2 y3
      unfold sound_Lines.l0
      exact mo_
theorem sound_Lines.mono : ∀ a0 k, LeO (sound_Lines.f k a0) (sound_Lines.f (k + 1) a0) := by
  intro a0 k
  have ih0 := sound_Lines.mono_l k
  unfold sound_Lines.f
  exact mo_
instance sound_Lines.lc : ∀ a0 k, LeC (sound_Lines.f k a0) (sound_Lines.f (k + 1) a0) := fun a0 k => ⟨sound_Lines.mono a0 k⟩
def sound_Lines.T5 : Bool × List (List Nat × List Nat) := (true, [([], []), ([], []), ([1], [1]), ([2], [2]), ([3], [3]), ([4, 3], [4]), ([5], [5]), ([], []), ([7], [7]), ([8, 5], [8]), ([6, 9], [6, 9]), ([10], [10]), ([], []), ([12], [12]), ([13, 9], [13]), ([11, 14], [11, 14]), ([15], [15]), ([0, 16, 14], [0, 16]), ([17, 17, 0, 1, 2, 3, 4, 5, 6, 7, 8, 9, 10, 11, 12, 13, 14, 15, 16, 17], [0, 17])])
def sound_Lines.B5 : List Nat := [0, 0, 2, 6, 14, 30, 62, 0, 128, 446, 1022, 2046, 0, 4096, 13246, 32766, 65534, 131071, 262143]
theorem sound_Lines.tab5 : rtab .any (opsOf Tryz.f24 5) = sound_Lines.T5 := by kernel_rfl
theorem sound_Lines.bits5 : waitsOk sound_Lines.T5.2 sound_Lines.B5 = true := by kernel_rfl
abbrev bw39_0 : Array Bool := #[false, false, false, false, false, false, false, false, false, false, false, false, false, false, false, false, false, false, false]
abbrev bw39_1 : Array Bool := #[true, false, false, false, false, false, false, false, false, false, false, false, false, false, false, false, false, false, false]
abbrev bw39_2 : Array Bool := #[true, true, false, false, false, false, false, false, false, false, false, false, false, false, false, false, false, false, false]
abbrev bw39_3 : Array Bool := #[true, true, false, false, false, false, false, true, false, false, false, false, false, false, false, false, false, false, false]
abbrev bw39_4 : Array Bool := #[true, true, false, false, false, false, false, true, false, false, false, false, true, false, false, false, false, false, false]
abbrev bw39_5 : Array Bool := #[true, true, true, false, false, false, false, true, false, false, false, false, true, false, false, false, false, false, false]
abbrev bw39_6 : Array Bool := #[true, true, true, false, false, false, false, true, true, false, false, false, true, false, false, false, false, false, false]
abbrev bw39_7 : Array Bool := #[true, true, true, false, false, false, false, true, true, false, false, false, true, true, false, false, false, false, false]
abbrev bw39_8 : Array Bool := #[true, true, true, true, false, false, false, true, true, false, false, false, true, true, false, false, false, false, false]
abbrev bw39_9 : Array Bool := #[true, true, true, true, true, false, false, true, true, false, false, false, true, true, false, false, false, false, false]
abbrev bw39_10 : Array Bool := #[true, true, true, true, true, true, false, true, true, false, false, false, true, true, false, false, false, false, false]
abbrev bw39_11 : Array Bool := #[true, true, true, true, true, true, true, true, true, false, false, false, true, true, false, false, false, false, false]
abbrev bw39_12 : Array Bool := #[true, true, true, true, true, true, true, true, true, true, false, false, true, true, false, false, false, false, false]
abbrev bw39_13 : Array Bool := #[true, true, true, true, true, true, true, true, true, true, true, false, true, true, false, false, false, false, false]
abbrev bw39_14 : Array Bool := #[true, true, true, true, true, true, true, true, true, true, true, true, true, true, false, false, false, false, false]
abbrev bw39_15 : Array Bool := #[true, true, true, true, true, true, true, true, true, true, true, true, true, true, true, false, false, false, false]
abbrev bw39_16 : Array Bool := #[true, true, true, true, true, true, true, true, true, true, true, true, true, true, true, true, false, false, false]
abbrev bw39_17 : Array Bool := #[true, true, true, true, true, true, true, true, true, true, true, true, true, true, true, true, true, false, false]
abbrev bw39_18 : Array Bool := #[true, true, true, true, true, true, true, true, true, true, true, true, true, true, true, true, true, true, false]
abbrev bw39_19 : Array Bool := #[true, true, true, true, true, true, true, true, true, true, true, true, true, true, true, true, true, true, true]
set_option maxHeartbeats 8000000 in
set_option maxRecDepth 100000 in
theorem sound_Lines.calls (k : Nat) (A0 : Option Addr) (c0 : Nat) (l0 : List (S65)) (r : List ByteArray) (w : World) (hr0 : Kd.C k65 w A0 l0.length l0) (hc0 : l0.length ≤ c0) (h : sound_Lines.f k l0 = some r) :
  Calls Tryz.prog 24 #[.slice A0 l0.length c0] w fun e w' => ∃ v0_ : Value, e = .returned (v0_) ∧ Kd.R Kd.string 9 w' w.heap.size (fun _ => True) v0_ r ∧ Below w.heap.size w w' := by
 have hu65 := Tryz.underlying65
 have HR0 := Aside0.mk hr0
 have HC0 := Aside0.mk hc0
 clear hr0 hc0
 have HB := Aside0.mk (Below.refl w.heap.size w)
 unfold sound_Lines.f at h
 have H := h
 clear h
 have H' := Aside0.mk H
 clear H
 go_enter Tryz.func24, Tryz.ntmps24
 go_wp2
 go_loopg [3, 8] k (fun kq v3 v8 w' => ∃ (x3_1 : List ByteArray) (x8_1 : Int), v8 = .int .i64 x8_1 ∧ Aside0 (sound_Lines.l0 kq x3_1 l0 (l0.length : Int) x8_1 = some r) ∧ Aside0 (kq ≤ k) ∧ Aside0 (Kd.R Kd.string 9 w' w.heap.size (fun _ => True) v3 x3_1) ∧ Aside0 (Below w.heap.size w w'))
 case atStart => exact ⟨(([] : List ByteArray)), (0), rl_, H', ⟨Nat.le_refl _⟩, ⟨by first | exact Kd.R_nil _ _ _ _ _ | exact Kd.N_nil _ _ _ _ _ | exact Kd.V_nil _ _ _ _ _ | exact Kd.Q_nil _ _ _ _ _ | exact Kd.S_nil _ _ _ _ _⟩, ⟨bw_⟩⟩
 case round =>
  clear H'
  obtain ⟨x3_1, x8_1, rfl, HA, HK1, HO_3, HB⟩ := hrel
  cases gk with
  | zero => exact absurd HA.out (by simp [sound_Lines.l0])
  | succ k1 =>
   have H := HA.out
   clear HA
   simp only [sound_Lines.l0] at H
   replace H := it_ H; obtain ⟨c2b0, H⟩ | ⟨c2b0, H⟩ := H
   ·obtain rfl := Option.some.inj H
    go_wp2
    go_ret
    exact ⟨_, rv_, by (with_reducible repeat (first | apply Kd.R_alloc | apply Kd.R_drewN | apply Kd.R_drew)); exact HO_3.out, by repeat (first | (with_reducible first | exact HB.out | apply below_alloc | apply pw_below_drewN | apply below_drew1) | exact HB.out)⟩

   replace H := is_ H; obtain ⟨c3b0, H⟩ := H
   replace H := is_ H; obtain ⟨c4b0, H⟩ := H
   replace H := bi_ H; obtain ⟨t262, A5, H⟩ := H
   obtain ⟨y263, hy263⟩ : ∃ y_ : List ByteArray, y_ = (([t262, (⟨#[63]⟩ : ByteArray)] : List ByteArray)) := ⟨_, rfl⟩
   replace H : ((cmp_Or_string.f y263).bind fun t266 => (if t266.size + 1 ≤ 9223372036854775807 then ((val_Put.f ((rd_T65 l0 x8_1).f1)).bind fun t267 => (if (t266 ++ (⟨#[32]⟩ : ByteArray)).size + t267.size ≤ 9223372036854775807 then (if ((t266 ++ (⟨#[32]⟩ : ByteArray)) ++ t267).size + 1 ≤ 9223372036854775807 then ((val_Put.f ((rd_T65 l0 x8_1).f2)).bind fun t268 => (if (((t266 ++ (⟨#[32]⟩ : ByteArray)) ++ t267) ++ (⟨#[32]⟩ : ByteArray)).size + t268.size ≤ 9223372036854775807 then (if x3_1.length < 8796093022208 then (sound_Lines.l0 k1 (x3_1 ++ [(((t266 ++ (⟨#[32]⟩ : ByteArray)) ++ t267) ++ (⟨#[32]⟩ : ByteArray)) ++ t268]) l0 (l0.length : Int) (wrap64 (x8_1 + 1))) else (none)) else (none))) else (none)) else (none))) else (none))) = some r := by first | (rw [hy263]; with_reducible exact H) | (have H2_ := (Option.bind_some _ _).symm.trans H; rw [hy263]; with_reducible exact H2_) | (have H2_ := (Option.bind_some _ _).symm.trans H; with_reducible exact H2_) | with_reducible exact H | (rw [hy263]; exact H) | exact H
   have Ny263 := Aside0.mk hy263
   clear hy263
   replace H := bi_ H; obtain ⟨t266, A6, H⟩ := H
   replace H := ip_ H; obtain ⟨c7, H⟩ := H
   have c7b0 := eq_true c7
   have c7b1 : decide (t266.size + 1 ≤ 9223372036854775807) = true := decide_eq_true c7
   try have c7b2 : (9223372036854775807 < t266.size + 1) = False := eq_false (Nat.not_lt.2 c7)
   replace H := bi_ H; obtain ⟨t267, A8, H⟩ := H
   replace H := ip_ H; obtain ⟨c9, H⟩ := H
   have c9b0 := eq_true c9
   have c9b1 : decide ((t266 ++ (⟨#[32]⟩ : ByteArray)).size + t267.size ≤ 9223372036854775807) = true := decide_eq_true c9
   try have c9b2 : (9223372036854775807 < (t266 ++ (⟨#[32]⟩ : ByteArray)).size + t267.size) = False := eq_false (Nat.not_lt.2 c9)
   try have c9b3 : (9223372036854775807 < t266.size + 1 + t267.size) = False := by have h_ := c9b2; simp only [ByteArray.size_append] at h_; exact h_
   replace H := ip_ H; obtain ⟨c10, H⟩ := H
   have c10b0 := eq_true c10
   have c10b1 : decide (((t266 ++ (⟨#[32]⟩ : ByteArray)) ++ t267).size + 1 ≤ 9223372036854775807) = true := decide_eq_true c10
   try have c10b2 : (9223372036854775807 < ((t266 ++ (⟨#[32]⟩ : ByteArray)) ++ t267).size + 1) = False := eq_false (Nat.not_lt.2 c10)
   try have c10b3 : (9223372036854775807 < t266.size + 1 + t267.size + 1) = False := by have h_ := c10b2; simp only [ByteArray.size_append] at h_; exact h_
   replace H := bi_ H; obtain ⟨t268, A11, H⟩ := H
   replace H := ip_ H; obtain ⟨c12, H⟩ := H
   have c12b0 := eq_true c12
   have c12b1 : decide ((((t266 ++ (⟨#[32]⟩ : ByteArray)) ++ t267) ++ (⟨#[32]⟩ : ByteArray)).size + t268.size ≤ 9223372036854775807) = true := decide_eq_true c12
   try have c12b2 : (9223372036854775807 < (((t266 ++ (⟨#[32]⟩ : ByteArray)) ++ t267) ++ (⟨#[32]⟩ : ByteArray)).size + t268.size) = False := eq_false (Nat.not_lt.2 c12)
   try have c12b3 : (9223372036854775807 < t266.size + 1 + t267.size + 1 + t268.size) = False := by have h_ := c12b2; simp only [ByteArray.size_append] at h_; exact h_
   replace H := ip_ H; obtain ⟨c13, H⟩ := H
   have LMc13 := Aside0.mk c13
   clear c13
   obtain ⟨y269, hy269⟩ : ∃ y_ : List ByteArray, y_ = (x3_1 ++ [(((t266 ++ (⟨#[32]⟩ : ByteArray)) ++ t267) ++ (⟨#[32]⟩ : ByteArray)) ++ t268]) := ⟨_, rfl⟩
   replace H : (sound_Lines.l0 k1 y269 l0 (l0.length : Int) (wrap64 (x8_1 + 1))) = some r := by first | (rw [hy269]; with_reducible exact H) | (have H2_ := (Option.bind_some _ _).symm.trans H; rw [hy269]; with_reducible exact H2_) | (have H2_ := (Option.bind_some _ _).symm.trans H; with_reducible exact H2_) | with_reducible exact H | (rw [hy269]; exact H) | exact H
   have Ny269 := Aside0.mk hy269
   clear hy269
   have H' := Aside0.mk H
   clear H
   obtain ⟨ad260, e260, hx260_0, hx260_1, hx260_2, p260, q260⟩ := au_T65 HR0 HB x8_1; cases e260
   try go_wp2_with (first | ((with_reducible refine gate_dst (N := 5) rfl ?_); refine by_ HB (N := 5) (cs := #[.int .i64 0, .int .i64 0, .int .i64 0]) (t := 65) ?_; intro gb261 hg w14 hbox hb hB_; have BK261 := Aside0.mk (hbox); have GW261 := gw_ hg hB_; have GE261 := gw_ hg hB_; replace HO_3 := Aside0.mk (Kd.R_below (kR_ HO_3) hb); replace HB := Aside0.mk (below_step hB_ hb); clear hb hbox hg; obtain ⟨z15_0, z15_1, z15_2, y15_0, y15_1, y15_2⟩ := cw3_ BK261.out))
   have n0_ : Aside0 (Kd.R Kd.string 9 (((w14.setCell ⟨gb261, 0, none⟩ (.int .i64 ((rd_T65 l0 x8_1).f0))).setCell ⟨gb261, 1, none⟩ (.int .i64 ((rd_T65 l0 x8_1).f1))).setCell ⟨gb261, 2, none⟩ (.int .i64 ((rd_T65 l0 x8_1).f2))) w.heap.size (fun _ => True) u3 x3_1) := ⟨by (with_reducible repeat (first | apply Kd.R_alloc | apply Kd.R_drewN | apply Kd.R_drew)); exact Kd.R_mono (Kd.R_far (p := ⟨gb261, 2, none⟩) (Kd.R_far (p := ⟨gb261, 1, none⟩) (Kd.R_far (p := ⟨gb261, 0, none⟩) (Kd.R_types HO_3.out BK261.out (by decide)) (fun _ hk => hk.2) (.int .i64 ((rd_T65 l0 x8_1).f0))) (fun _ hk => hk.2) (.int .i64 ((rd_T65 l0 x8_1).f1))) (fun _ hk => hk.2) (.int .i64 ((rd_T65 l0 x8_1).f2))) (fun _ hk => trivial)⟩
   have n1_ : Aside0 ((((w14.setCell ⟨gb261, 0, none⟩ (.int .i64 ((rd_T65 l0 x8_1).f0))).setCell ⟨gb261, 1, none⟩ (.int .i64 ((rd_T65 l0 x8_1).f1))).setCell ⟨gb261, 2, none⟩ (.int .i64 ((rd_T65 l0 x8_1).f2))).heap[gb261]? = some (.cells #[.int .i64 ((rd_T65 l0 x8_1).f0), .int .i64 ((rd_T65 l0 x8_1).f1), .int .i64 ((rd_T65 l0 x8_1).f2)] 65 (0, 0))) := ⟨by refine grO ?_; refine blk_put (cs := #[.int .i64 ((rd_T65 l0 x8_1).f0), .int .i64 ((rd_T65 l0 x8_1).f1), .int .i64 0]) ?_ 2 _ rfl; refine grO ?_; refine blk_put (cs := #[.int .i64 ((rd_T65 l0 x8_1).f0), .int .i64 0, .int .i64 0]) ?_ 1 _ rfl; refine grO ?_; refine blk_put (cs := #[.int .i64 0, .int .i64 0, .int .i64 0]) ?_ 0 _ rfl; refine grO ?_; exact BK261.out⟩
   have n2_ : Aside0 (Below w.heap.size w (((w14.setCell ⟨gb261, 0, none⟩ (.int .i64 ((rd_T65 l0 x8_1).f0))).setCell ⟨gb261, 1, none⟩ (.int .i64 ((rd_T65 l0 x8_1).f1))).setCell ⟨gb261, 2, none⟩ (.int .i64 ((rd_T65 l0 x8_1).f2)))) := ⟨bw_⟩
   (try clear HO_3)
   (try clear BK261)
   (try clear HB)
   generalize (((w14.setCell ⟨gb261, 0, none⟩ (.int .i64 ((rd_T65 l0 x8_1).f0))).setCell ⟨gb261, 1, none⟩ (.int .i64 ((rd_T65 l0 x8_1).f1))).setCell ⟨gb261, 2, none⟩ (.int .i64 ((rd_T65 l0 x8_1).f2))) = w16 at n0_ n1_ n2_ ⊢
   have HO_3 := n0_
   have BK261 := n1_
   have HB := n2_
   clear n0_ n1_ n2_
   have n0_ := Aside0.mk (Kd.R_drew HO_3.out)
   have n1_ := Aside0.mk (blk_drew BK261.out)
   have n2_ := Aside0.mk (below_drew1 HB.out)
   clear HO_3
   clear BK261
   clear HB
   have HO_3 := n0_
   have BK261 := n1_
   have HB := n2_
   clear n0_ n1_ n2_
   refine start_ (n := 19) (S := fun w' => w'.cell? ⟨gb261, 0, none⟩ = some (.int .i64 ((rd_T65 l0 x8_1).f0)) ∧ w'.cell? ⟨gb261, 1, none⟩ = some (.int .i64 ((rd_T65 l0 x8_1).f1)) ∧ w'.cell? ⟨gb261, 2, none⟩ = some (.int .i64 ((rd_T65 l0 x8_1).f2))) (ds := []) bw39_0 (by kernel_rfl) rfl rfl ⟨(blk_cell BK261.out 0).trans rfl, (blk_cell BK261.out 1).trans rfl, (blk_cell BK261.out 2).trans rfl⟩ (fun hHeld => ?_); refine with_tabW sound_Lines.tab5 sound_Lines.bits5 (fun HT_ HW_ => ?_)
   generalize w16.drew = w17 at HO_3 BK261 HB hHeld ⊢
   refine pure_ (i := 0) (N := some 12) (v := ?_) (a' := ?_) bw39_1 rfl rfl (any_of HT_.out (by kernel_rfl)) (fun _ _ _ h => h) (Or.inl ⟨by rfl, ?_⟩) ?_ ?_
   rotate_left
   ·intro w'
    go_simp
    with_reducible rfl
   rotate_left
   ·simp only [Act.put, sb_, s0_, s1_, i64_w, i32_w]
    rfl
   refine pure_ (i := 1) (N := some 13) (v := ?_) (a' := ?_) bw39_2 rfl rfl (any_of HT_.out (by kernel_rfl)) (fun _ _ _ h => h) (Or.inl ⟨by rfl, ?_⟩) ?_ ?_
   rotate_left
   ·intro w'
    go_simp
    with_reducible rfl
   rotate_left
   ·simp only [Act.put, sb_, s0_, s1_, i64_w, i32_w]
    rfl
   refine pure_ (i := 7) (N := some 19) (v := ?_) (a' := ?_) bw39_3 rfl rfl (any_of HT_.out (by kernel_rfl)) (fun _ _ _ h => h) (Or.inl ⟨by rfl, ?_⟩) ?_ ?_
   rotate_left
   ·intro w'
    go_simp
    with_reducible rfl
   rotate_left
   ·simp only [Act.put, sb_, s0_, s1_, i64_w, i32_w]
    rfl
   refine pure_ (i := 12) (N := some 24) (v := ?_) (a' := ?_) bw39_4 rfl rfl (any_of HT_.out (by kernel_rfl)) (fun _ _ _ h => h) (Or.inl ⟨by rfl, ?_⟩) ?_ ?_
   rotate_left
   ·intro w'
    go_simp
    with_reducible rfl
   rotate_left
   ·simp only [Act.put, sb_, s0_, s1_, i64_w, i32_w]
    rfl
   refine take_ (i := 2) (N := some 14) (v := ?_) (a' := ?_) bw39_5 rfl rfl (take_ofW HT_.out HW_.out (by kernel_rfl)) (fun _ _ _ h => h) (Or.inl ⟨by rfl, ?_⟩) hHeld ?_ ?_
   rotate_left
   ·rintro w' ⟨s0, s1, s2⟩
    go_simp
    with_reducible rfl
   rotate_left
   ·simp only [Act.put, sb_, s0_, s1_, i64_w, i32_w]
    rfl
   refine take_ (i := 8) (N := some 20) (v := ?_) (a' := ?_) bw39_6 rfl rfl (take_ofW HT_.out HW_.out (by kernel_rfl)) (fun _ _ _ h => h) (Or.inl ⟨by rfl, ?_⟩) hHeld ?_ ?_
   rotate_left
   ·rintro w' ⟨s0, s1, s2⟩
    go_simp
    with_reducible rfl
   rotate_left
   ·simp only [Act.put, sb_, s0_, s1_, i64_w, i32_w]
    rfl
   refine take_ (i := 13) (N := some 25) (v := ?_) (a' := ?_) bw39_7 rfl rfl (take_ofW HT_.out HW_.out (by kernel_rfl)) (fun _ _ _ h => h) (Or.inl ⟨by rfl, ?_⟩) hHeld ?_ ?_
   rotate_left
   ·rintro w' ⟨s0, s1, s2⟩
    go_simp
    with_reducible rfl
   rotate_left
   ·simp only [Act.put, sb_, s0_, s1_, i64_w, i32_w]
    rfl
   refine one_ (i := 3) (N := some 15) bw39_8 rfl rfl (one_of HT_.out (by kernel_rfl)) (by decide) (fun K hK => ?_)
   refine goes_ Tryz.func41 (by kernel_rfl) rfl #[.int .i64 ((rd_T65 l0 x8_1).f0)] (by rfl) rfl rfl (by (try simp only [List.map_toArray, List.map_cons, List.map_nil]); first | done | rfl | (simp only [List.length_drop, List.length_take]; rfl)) ?_
   with_reducible refine (sound_Word.calls ((rd_T65 l0 x8_1).f0) t262 _ A5.out).mono ?_
   rintro e w18 ⟨rfl, hb⟩
   refine ⟨_, rfl, ?_⟩
   have n0_ := Aside0.mk (Kd.R_below (kR_ HO_3) hb)
   have n1_ := Aside0.mk (blk_below (grw BK261.out) hb)
   have n2_ := Aside0.mk (below_step bw_ hb)
   clear HO_3
   clear BK261
   clear HB
   have HO_3 := n0_
   have BK261 := n1_
   have HB := n2_
   clear n0_ n1_ n2_
   (try clear hb)
   (try clear hb2)
   (try clear hk)
   (try clear hi)
   refine hK.out _ _ ⟨(blk_cell BK261.out 0).trans rfl, (blk_cell BK261.out 1).trans rfl, (blk_cell BK261.out 2).trans rfl⟩ (fun hHeld => ?_)
   clear hK K
   refine norm_ (a' := ?_) ?_ ?_
   rotate_left
   ·show Act.put _ (some 15) _ = _
    simp only [Act.put, sb_, s0_, s1_, i64_w, i32_w]
    rfl
   refine one_ (i := 4) (N := some 16) bw39_9 rfl rfl (one_of HT_.out (by kernel_rfl)) (by decide) (fun K hK => ?_)
   refine Kd.R_lit_step Kd.string _ 9 ?hg (N := 16) ?hd (xs := ([t262, (⟨#[63]⟩ : ByteArray)] : List ByteArray)) (inner := [.string t262, .string (⟨#[63]⟩ : ByteArray)]) (ok := fun _ => True) (okp := fun _ => True) ?hr ?hp (fun _ hk => hk) trivial (Below.refl _ _) (Nat.le_refl _) (by simp) ?_; (case hd => rfl); (case hg => rfl); (case hr => first | (go_simp; done) | (go_simp; rfl)); (case hp => exact (Reps.one (show Kd.M Kd.string _ _ _ t262 [.string t262] from rfl) (Reps.one (show Kd.M Kd.string _ _ _ (⟨#[63]⟩ : ByteArray) [.string (⟨#[63]⟩ : ByteArray)] from rfl) (Reps.none _ _))))
   intro v264 w19 ho20 hb hg_ hnew_
   clear hg_ hnew_
   (first | rw [← Ny263.out] at ho20 | (simp only [Int.reduceToNat] at ho20; rw [← Ny263.out] at ho20))
   have n0_ := Aside0.mk (Kd.R_elder' (kR_ HO_3) (Kd.R_base ho20) hb)
   have n1_ := Aside0.mk (Kd.R_lower (Kd.R_new' ho20 (Kd.R_lt (kR_ HO_3))) (below_size bw_))
   have n2_ := Aside0.mk (blk_below (grw BK261.out) hb)
   have n3_ := Aside0.mk (below_step bw_ hb)
   clear HO_3
   clear BK261
   clear HB
   have HO_3 := n0_
   have HO265 := n1_
   have BK261 := n2_
   have HB := n3_
   clear n0_ n1_ n2_ n3_
   clear hb ho20
   obtain ⟨Ao21, co21, eo21⟩ := Kd.R_slice HO265.out
   (first | subst eo21 | (injection eo21 with f1_ f2_ f3_; have f4_ := f1_.symm; have f5_ := f3_.symm; clear f1_ f2_ f3_; subst f4_; subst f5_))
   refine hK.out _ _ ⟨(blk_cell BK261.out 0).trans rfl, (blk_cell BK261.out 1).trans rfl, (blk_cell BK261.out 2).trans rfl⟩ (fun hHeld => ?_)
   clear hK K
   refine norm_ (a' := ?_) ?_ ?_
   rotate_left
   ·show Act.put _ (some 16) _ = _
    simp only [Act.put, sb_, s0_, s1_, i64_w, i32_w]
    rfl
   refine one_ (i := 5) (N := some 17) bw39_10 rfl rfl (one_of HT_.out (by kernel_rfl)) (by decide) (fun K hK => ?_)
   refine goes_ Tryz.func40 (by kernel_rfl) rfl #[.slice Ao21 y263.length co21] (by rfl) rfl rfl (by (try simp only [List.map_toArray, List.map_cons, List.map_nil]); first | done | rfl | (simp only [List.length_drop, List.length_take]; rfl)) ?_
   with_reducible refine (cmp_Or_string.calls _ _ y263 t266 _ ?side1 ?side2 A6.out).mono ?_
   (case side1 => repeat (first | exact (Kd.R_reads' HO265.out).2.2 | (with_reducible refine Kd.C_alloc ?_ _) | (with_reducible refine Kd.C_drewN ?_ _) | (with_reducible refine Kd.C_drew ?_)))
   (case side2 => exact (Kd.R_reads' HO265.out).2.1)
   rintro e w22 ⟨rfl, hb⟩
   refine ⟨_, rfl, ?_⟩
   have n0_ := Aside0.mk (Kd.R_below (kR_ HO_3) hb)
   have n1_ := Aside0.mk (Kd.R_below (kR_ HO265) hb)
   have n2_ := Aside0.mk (blk_below (grw BK261.out) hb)
   have n3_ := Aside0.mk (below_step bw_ hb)
   clear HO_3
   clear HO265
   clear BK261
   clear HB
   have HO_3 := n0_
   have HO265 := n1_
   have BK261 := n2_
   have HB := n3_
   clear n0_ n1_ n2_ n3_
   (try clear hb)
   (try clear hb2)
   (try clear hk)
   (try clear hi)
   refine hK.out _ _ ⟨(blk_cell BK261.out 0).trans rfl, (blk_cell BK261.out 1).trans rfl, (blk_cell BK261.out 2).trans rfl⟩ (fun hHeld => ?_)
   clear hK K
   refine norm_ (a' := ?_) ?_ ?_
   rotate_left
   ·show Act.put _ (some 17) _ = _
    simp only [Act.put, sb_, s0_, s1_, i64_w, i32_w]
    rfl
   refine pure_ (i := 6) (N := some 18) (v := ?_) (a' := ?_) bw39_11 rfl rfl (any_of HT_.out (by kernel_rfl)) (fun _ _ _ h => h) (Or.inl ⟨by rfl, ?_⟩) ?_ ?_
   rotate_left
   ·intro w'
    go_simp
    with_reducible rfl
   rotate_left
   ·simp only [Act.put, sb_, s0_, s1_, i64_w, i32_w]
    rfl
   refine one_ (i := 9) (N := some 21) bw39_12 rfl rfl (one_of HT_.out (by kernel_rfl)) (by decide) (fun K hK => ?_)
   refine goes_ Tryz.func42 (by kernel_rfl) rfl #[.int .i64 ((rd_T65 l0 x8_1).f1)] (by rfl) rfl rfl (by (try simp only [List.map_toArray, List.map_cons, List.map_nil]); first | done | rfl | (simp only [List.length_drop, List.length_take]; rfl)) ?_
   with_reducible refine (val_Put.calls ((rd_T65 l0 x8_1).f1) t267 _ A8.out).mono ?_
   rintro e w23 ⟨rfl, hb⟩
   refine ⟨_, rfl, ?_⟩
   have n0_ := Aside0.mk (Kd.R_below (kR_ HO_3) hb)
   have n1_ := Aside0.mk (Kd.R_below (kR_ HO265) hb)
   have n2_ := Aside0.mk (blk_below (grw BK261.out) hb)
   have n3_ := Aside0.mk (below_step bw_ hb)
   clear HO_3
   clear HO265
   clear BK261
   clear HB
   have HO_3 := n0_
   have HO265 := n1_
   have BK261 := n2_
   have HB := n3_
   clear n0_ n1_ n2_ n3_
   (try clear hb)
   (try clear hb2)
   (try clear hk)
   (try clear hi)
   refine hK.out _ _ ⟨(blk_cell BK261.out 0).trans rfl, (blk_cell BK261.out 1).trans rfl, (blk_cell BK261.out 2).trans rfl⟩ (fun hHeld => ?_)
   clear hK K
   refine norm_ (a' := ?_) ?_ ?_
   rotate_left
   ·show Act.put _ (some 21) _ = _
    simp only [Act.put, sb_, s0_, s1_, i64_w, i32_w]
    rfl
   refine pure_ (i := 10) (N := some 22) (v := ?_) (a' := ?_) bw39_13 rfl rfl (any_of HT_.out (by kernel_rfl)) (fun _ _ _ h => h) (Or.inl ⟨by rfl, ?_⟩) ?_ ?_
   rotate_left
   ·intro w'
    go_simp
    with_reducible rfl
   rotate_left
   ·simp only [Act.put, sb_, s0_, s1_, i64_w, i32_w]
    rfl
   refine pure_ (i := 11) (N := some 23) (v := ?_) (a' := ?_) bw39_14 rfl rfl (any_of HT_.out (by kernel_rfl)) (fun _ _ _ h => h) (Or.inl ⟨by rfl, ?_⟩) ?_ ?_
   rotate_left
   ·intro w'
    go_simp
    with_reducible rfl
   rotate_left
   ·simp only [Act.put, sb_, s0_, s1_, i64_w, i32_w]
    rfl
   refine one_ (i := 14) (N := some 26) bw39_15 rfl rfl (one_of HT_.out (by kernel_rfl)) (by decide) (fun K hK => ?_)
   refine goes_ Tryz.func42 (by kernel_rfl) rfl #[.int .i64 ((rd_T65 l0 x8_1).f2)] (by rfl) rfl rfl (by (try simp only [List.map_toArray, List.map_cons, List.map_nil]); first | done | rfl | (simp only [List.length_drop, List.length_take]; rfl)) ?_
   with_reducible refine (val_Put.calls ((rd_T65 l0 x8_1).f2) t268 _ A11.out).mono ?_
   rintro e w24 ⟨rfl, hb⟩
   refine ⟨_, rfl, ?_⟩
   have n0_ := Aside0.mk (Kd.R_below (kR_ HO_3) hb)
   have n1_ := Aside0.mk (Kd.R_below (kR_ HO265) hb)
   have n2_ := Aside0.mk (blk_below (grw BK261.out) hb)
   have n3_ := Aside0.mk (below_step bw_ hb)
   clear HO_3
   clear HO265
   clear BK261
   clear HB
   have HO_3 := n0_
   have HO265 := n1_
   have BK261 := n2_
   have HB := n3_
   clear n0_ n1_ n2_ n3_
   (try clear hb)
   (try clear hb2)
   (try clear hk)
   (try clear hi)
   refine hK.out _ _ ⟨(blk_cell BK261.out 0).trans rfl, (blk_cell BK261.out 1).trans rfl, (blk_cell BK261.out 2).trans rfl⟩ (fun hHeld => ?_)
   clear hK K
   refine norm_ (a' := ?_) ?_ ?_
   rotate_left
   ·show Act.put _ (some 26) _ = _
    simp only [Act.put, sb_, s0_, s1_, i64_w, i32_w]
    rfl
   refine pure_ (i := 15) (N := some 27) (v := ?_) (a' := ?_) bw39_16 rfl rfl (any_of HT_.out (by kernel_rfl)) (fun _ _ _ h => h) (Or.inl ⟨by rfl, ?_⟩) ?_ ?_
   rotate_left
   ·intro w'
    go_simp
    with_reducible rfl
   rotate_left
   ·simp only [Act.put, sb_, s0_, s1_, i64_w, i32_w]
    rfl
   refine one_ (i := 16) (N := some 28) bw39_17 rfl rfl (one_of HT_.out (by kernel_rfl)) (by decide) (fun K hK => ?_)
   refine value_ (w1 := ?_) (v := ?_) (by rfl) rfl ?_ ?_
   rotate_left 2
   ·go_simp
    constructor
    ·rfl
    ·rfl
   refine hK.out _ _ ⟨(blk_cell (blk_alloc BK261.out _) 0).trans rfl, (blk_cell (blk_alloc BK261.out _) 1).trans rfl, (blk_cell (blk_alloc BK261.out _) 2).trans rfl⟩ (fun hHeld => ?_)
   clear hK K
   refine norm_ (a' := ?_) ?_ ?_
   rotate_left
   ·show Act.put _ (some 28) _ = _
    simp only [Act.put, sb_, s0_, s1_, i64_w, i32_w]
    rfl
   refine one_ (i := 17) (N := some 29) bw39_18 rfl rfl (one_of HT_.out (by kernel_rfl)) (by decide) (fun K hK => ?_)
   refine Kd.R_append_step Kd.string (w0 := w) w.heap.size (by rfl) (.tmp 12) (.tmp 28) 22 9 (.string ⟨#[]⟩) 16 rfl Tryz.underlying22 info9 rfl (by decide) (by omega) u3 x3_1 ((((t266 ++ (⟨#[32]⟩ : ByteArray)) ++ t267) ++ (⟨#[32]⟩ : ByteArray)) ++ t268) [.string ((((t266 ++ (⟨#[32]⟩ : ByteArray)) ++ t267) ++ (⟨#[32]⟩ : ByteArray)) ++ t268)] (fun k_ => some k_ ≠ (.slice Ao21 y263.length co21 : Value).ownBlock) (fun _ => False) rfl rfl ?aP (fun _ hk => hk.elim) ?aF ?aO ?aB ?aS ?aL ?_
   (case aP => exact rfl)
   (case aB => exact bw_)
   (case aF => exact (fun k_ hk => Kd.fresh' (Kd.R_lt (kR_ HO265)) k_ hk))
   (case aO => exact (by (with_reducible repeat (first | apply Kd.R_alloc | apply Kd.R_drewN | apply Kd.R_drew)); exact Kd.R_mono HO_3.out (fun _ hk => hk.2)))
   (case aS => exact (below_size bw_))
   (case aL => have := LMc13.out; omega)
   intro v270 w25 ho hb hg hat
   rw [← Ny269.out] at ho
   have n0_ := Aside0.mk (blk_grown (grw BK261.out) hg (Kd.R_ne HO_3.out BK261.out (by decide)))
   have n1_ := Aside0.mk (Kd.R_after (ok := (fun _ => True)) (kR_ HO265) hg hat)
   have n2_ := Aside0.mk (hb)
   have n3_ := Aside0.mk (ho)
   clear BK261
   clear HO265
   clear HB
   clear HO_3
   have BK261 := n0_
   have HO265 := n1_
   have HB := n2_
   have HO271 := n3_
   clear n0_ n1_ n2_ n3_
   clear ho hb hg hat
   refine hK.out _ _ ⟨(blk_cell BK261.out 0).trans rfl, (blk_cell BK261.out 1).trans rfl, (blk_cell BK261.out 2).trans rfl⟩ (fun hHeld => ?_)
   clear hK K
   refine norm_ (a' := ?_) ?_ ?_
   rotate_left
   ·show Act.put _ (some 29) _ = _
    simp only [Act.put, sb_, s0_, s1_, i64_w, i32_w]
    rfl
   refine pure_ (i := 18) (N := some 3) (v := ?_) (a' := ?_) bw39_19 rfl rfl (any_of HT_.out (by kernel_rfl)) (fun _ _ _ h => h) (Or.inl ⟨by rfl, ?_⟩) ?_ ?_
   rotate_left
   ·intro w'
    go_simp
    with_reducible rfl
   rotate_left
   ·simp only [Act.put, sb_, s0_, s1_, i64_w, i32_w]
    rfl
   refine done_ (done_of HT_.out (by kernel_rfl)) ?_
   try go_wp2
   go_roundg k1
   case measure => have := HK1.out; omega
   case rel => exact ⟨(y269), (wrap64 (x8_1 + 1)), rl_, H', ⟨kn_ HK1⟩, ⟨by (with_reducible repeat (first | apply Kd.R_alloc | apply Kd.R_drewN | apply Kd.R_drew)); exact Kd.R_mono HO271.out (fun _ hk => trivial)⟩, ⟨bw_⟩⟩
/-! ### semblancelaw15_awake: function 7 -/
def semblancelaw15_awake.f (k : Nat)  : Option (Bool) := (sound_Is.f k (⟨#[99]⟩ : ByteArray) ([] : List ByteArray) ([] : List (S50)) (([(⟨(⟨#[97]⟩ : ByteArray), 1, (-1), ([] : List (S76)), ([] : List (S76)), ([] : List (S54))⟩ : S46)] : List (S46)))).bind fun t276 => ((some (([(⟨(⟨#[97]⟩ : ByteArray), 2, (-1), ([] : List (S76)), ([] : List (S76)), ([] : List (S54))⟩ : S46)] : List (S46)) : List (S46))).bind fun y277 => ((sound_Of.f k (⟨#[99]⟩ : ByteArray) ([] : List ByteArray) ([] : List (S50)) y277).bind fun bt280 => ((sound_Lines.f k bt280.1).bind fun t284 => (if t276 = true then ((sound_Is.f k (⟨#[99]⟩ : ByteArray) ([] : List ByteArray) ([] : List (S50)) y277).bind fun t287 => (if t287 = true then (some false) else (if bt280.2 = 0 then (if (t284.length : Int) = 1 then (if 0 < (t284.length : Int) then (some ((rdOf ByteArray.empty t284 0).toList == ([107, 105, 100, 115, 32, 48, 32, 48] : List UInt8))) else (none)) else (some false)) else (some false)))) else (some false)))))
theorem semblancelaw15_awake.mono : ∀ k, LeO (semblancelaw15_awake.f k ) (semblancelaw15_awake.f (k + 1) ) := by
  intro  k
  unfold semblancelaw15_awake.f
  exact mo_
instance semblancelaw15_awake.lc : ∀ k, LeC (semblancelaw15_awake.f k ) (semblancelaw15_awake.f (k + 1) ) := fun k => ⟨semblancelaw15_awake.mono k⟩
set_option maxHeartbeats 8000000 in
set_option maxRecDepth 100000 in
theorem semblancelaw15_awake.calls0 (k : Nat) (r : Bool) (w : World) (hr : r = true) (h : semblancelaw15_awake.f k  = some r) :
  Calls Tryz.prog 7 #[] w fun e w' => e = .returned (.bool r) ∧ Below w.heap.size w w' := by
 have hu46 := Tryz.underlying46
 have hu26 := Tryz.underlying26
 have HB := Aside0.mk (Below.refl w.heap.size w)
 unfold semblancelaw15_awake.f at h
 have H := h
 clear h
 obtain ⟨y272, hy272⟩ : ∃ y_ : List (S46), y_ = (([(⟨(⟨#[97]⟩ : ByteArray), 1, (-1), ([] : List (S76)), ([] : List (S76)), ([] : List (S54))⟩ : S46)] : List (S46))) := ⟨_, rfl⟩
 replace H : ((sound_Is.f k (⟨#[99]⟩ : ByteArray) ([] : List ByteArray) ([] : List (S50)) y272).bind fun t276 => ((some (([(⟨(⟨#[97]⟩ : ByteArray), 2, (-1), ([] : List (S76)), ([] : List (S76)), ([] : List (S54))⟩ : S46)] : List (S46)) : List (S46))).bind fun y277 => ((sound_Of.f k (⟨#[99]⟩ : ByteArray) ([] : List ByteArray) ([] : List (S50)) y277).bind fun bt280 => ((sound_Lines.f k bt280.1).bind fun t284 => (if t276 = true then ((sound_Is.f k (⟨#[99]⟩ : ByteArray) ([] : List ByteArray) ([] : List (S50)) y277).bind fun t287 => (if t287 = true then (some false) else (if bt280.2 = 0 then (if (t284.length : Int) = 1 then (if 0 < (t284.length : Int) then (some ((rdOf ByteArray.empty t284 0).toList == ([107, 105, 100, 115, 32, 48, 32, 48] : List UInt8))) else (none)) else (some false)) else (some false)))) else (some false)))))) = some r := by first | (rw [hy272]; with_reducible exact H) | (have H2_ := (Option.bind_some _ _).symm.trans H; rw [hy272]; with_reducible exact H2_) | (have H2_ := (Option.bind_some _ _).symm.trans H; with_reducible exact H2_) | with_reducible exact H | (rw [hy272]; exact H) | exact H
 have Ny272 := Aside0.mk hy272
 clear hy272
 replace H := bi_ H; obtain ⟨t276, A1, H⟩ := H
 obtain ⟨y277, hy277⟩ : ∃ y_ : List (S46), y_ = (([(⟨(⟨#[97]⟩ : ByteArray), 2, (-1), ([] : List (S76)), ([] : List (S76)), ([] : List (S54))⟩ : S46)] : List (S46))) := ⟨_, rfl⟩
 replace H : ((sound_Of.f k (⟨#[99]⟩ : ByteArray) ([] : List ByteArray) ([] : List (S50)) y277).bind fun bt280 => ((sound_Lines.f k bt280.1).bind fun t284 => (if t276 = true then ((sound_Is.f k (⟨#[99]⟩ : ByteArray) ([] : List ByteArray) ([] : List (S50)) y277).bind fun t287 => (if t287 = true then (some false) else (if bt280.2 = 0 then (if (t284.length : Int) = 1 then (if 0 < (t284.length : Int) then (some ((rdOf ByteArray.empty t284 0).toList == ([107, 105, 100, 115, 32, 48, 32, 48] : List UInt8))) else (none)) else (some false)) else (some false)))) else (some false)))) = some r := by first | (rw [hy277]; with_reducible exact H) | (have H2_ := (Option.bind_some _ _).symm.trans H; rw [hy277]; with_reducible exact H2_) | (have H2_ := (Option.bind_some _ _).symm.trans H; with_reducible exact H2_) | with_reducible exact H | (rw [hy277]; exact H) | exact H
 have Ny277 := Aside0.mk hy277
 clear hy277
 replace H := Option.bind_eq_some_iff.mp H
 obtain ⟨⟨t280, t283⟩, A20, H⟩ := H
 replace H : ((sound_Lines.f k t280).bind fun t284 => (if t276 = true then ((sound_Is.f k (⟨#[99]⟩ : ByteArray) ([] : List ByteArray) ([] : List (S50)) y277).bind fun t287 => (if t287 = true then (some false) else (if t283 = 0 then (if (t284.length : Int) = 1 then (if 0 < (t284.length : Int) then (some ((rdOf ByteArray.empty t284 0).toList == ([107, 105, 100, 115, 32, 48, 32, 48] : List UInt8))) else (none)) else (some false)) else (some false)))) else (some false))) = some r := H
 have A2 := Aside0.mk A20
 clear A20
 replace H := bi_ H; obtain ⟨t284, A3, H⟩ := H
 replace H := ib_ H; obtain ⟨rfl, H⟩ | ⟨rfl, H⟩ := H
 ·rw [hr] at H
  exact absurd (Option.some.inj H) Bool.false_ne_true
 replace H := bi_ H; obtain ⟨t287, A5, H⟩ := H
 replace H := ie_ H; obtain ⟨rfl, H⟩ | ⟨rfl, H⟩ := H
 ·rw [hr] at H
  exact absurd (Option.some.inj H) Bool.false_ne_true
 replace H := ic_ H; obtain ⟨c22, H⟩ | ⟨c22, H⟩ := H
 ·have c22b0 : (t283 == 0) = false := beq_eq_false_iff_ne.mpr c22
  have c22b1 : (t283 != 0) = true := bne_iff_ne.mpr c22
  rw [hr] at H
  exact absurd (Option.some.inj H) Bool.false_ne_true
 have c22b0 : (t283 == 0) = true := beq_iff_eq.mpr c22
 have c22b1 : (t283 != 0) = false := bne_eq_false_iff_eq.mpr c22
 clear c22
 replace H := ic_ H; obtain ⟨c23, H⟩ | ⟨c23, H⟩ := H
 ·have c23b0 : ((t284.length : Int) == 1) = false := beq_eq_false_iff_ne.mpr c23
  have c23b1 : ((t284.length : Int) != 1) = true := bne_iff_ne.mpr c23
  rw [hr] at H
  exact absurd (Option.some.inj H) Bool.false_ne_true
 have c23b0 : ((t284.length : Int) == 1) = true := beq_iff_eq.mpr c23
 have c23b1 : ((t284.length : Int) != 1) = false := bne_eq_false_iff_eq.mpr c23
 clear c23
 replace H := ip_ H; obtain ⟨c24, H⟩ := H
 have c24b0 : decide (0 < (t284.length : Int)) = true := decide_eq_true c24
 have c24b1 : decide (0 < t284.length) = true := decide_eq_true (by omega)
 clear c24
 obtain rfl := Option.some.inj H
 go_enter Tryz.func7, Tryz.ntmps7
 go_wp2_with (first | ((with_reducible refine gate_dst (N := 7) rfl ?_); (try (refine gate_guard (by rfl) ?_; dsimp only)); refine Kd.R_lit k46 _ 46 ?hg (N := 7) ?hd (xs := ([(⟨(⟨#[97]⟩ : ByteArray), 1, (-1), ([] : List (S76)), ([] : List (S76)), ([] : List (S54))⟩ : S46)] : List (S46))) (inner := [.string (⟨#[97]⟩ : ByteArray), .int .i64 1, .int .i64 (-1), .slice none 0 0, .slice none 0 0, .slice none 0 0]) (ok := fun _ => True) (okp := fun _ => True) ?hr ?hp (fun _ hk => hk) trivial (Below.refl _ _) (Nat.le_refl _) (by simp) ?_; (case hd => rfl); (case hg => rfl); (case hr => first | (go_simp; done) | (go_simp; rfl)); (case hp => exact (Reps.c6 (show Kd.M k46 _ _ _ (⟨(⟨#[97]⟩ : ByteArray), 1, (-1), ([] : List (S76)), ([] : List (S76)), ([] : List (S54))⟩ : S46) [.string (⟨#[97]⟩ : ByteArray), .int .i64 1, .int .i64 (-1), .slice none 0 0, .slice none 0 0, .slice none 0 0] from (k46_mkM _ _ _ (⟨(⟨#[97]⟩ : ByteArray), 1, (-1), ([] : List (S76)), ([] : List (S76)), ([] : List (S54))⟩ : S46) (Kd.R_nil _ _ _ _ _) (Kd.R_nil _ _ _ _ _) (Kd.R_nil _ _ _ _ _))) (Reps.none _ _))); intro v273 w25 ho26 hb hg_ hnew_; clear hg_ hnew_; (first | rw [← Ny272.out] at ho26 | (simp only [Int.reduceToNat] at ho26; rw [← Ny272.out] at ho26)); have HO274 := Aside0.mk (Kd.R_lower ho26 (below_size (brw HB.out))); replace HB := ts_ HB hb; clear hb ho26; obtain ⟨Ao27, co27, eo27⟩ := Kd.R_slice HO274.out; subst eo27) | ((with_reducible refine gate_dst (N := 1) rfl ?_); (try (refine gate_guard (by rfl) ?_; dsimp only)); refine by_ HB (N := 1) (cs := #[.string (⟨#[]⟩ : ByteArray), .slice none 0 0, .slice none 0 0, .slice none 0 0]) (t := 26) ?_; intro gb275 hg w28 hbox hb hB_; have BK275 := Aside0.mk (hbox); have GW275 := gw_ hg hB_; have GE275 := gw_ hg hB_; replace HO274 := Aside0.mk (Kd.R_below (kR_ HO274) hb); replace HB := Aside0.mk (below_step hB_ hb); clear hb hbox hg; obtain ⟨z29_0, z29_1, z29_2, z29_3, y29_0, y29_1, y29_2, y29_3⟩ := cw4_ BK275.out) | ((with_reducible refine gate_callee (f := 9) rfl ?_); refine gl_ (some 10) Tryz.func9 #[.agg #[.string (⟨#[99]⟩ : ByteArray), .slice none 0 0, .slice none 0 0, .slice Ao27 y272.length co27]] ?_; (refine (sound_Is.calls k (⟨#[99]⟩ : ByteArray) _ _ ([] : List ByteArray) _ _ ([] : List (S50)) _ _ y272 true _ ?side1 ?side2 ?side3 ?side4 ?side5 (Kd.R_reads' HO274.out).2.1 A1.out).mono ?_); (case side1 => exact Kd.C_nil _ _); (case side2 => exact Nat.le_refl _); (case side3 => exact Kd.C_nil _ _); (case side4 => exact Nat.le_refl _); (case side5 => refine (Kd.R_reads' (e := 46) (base := w.heap.size) (ok := fun k_ => True) (n := y272.length) (c := co27) ?_).2.2; exact (by (with_reducible repeat (first | apply Kd.R_alloc | apply Kd.R_drewN | apply Kd.R_drew)); exact (Kd.R_mono (Kd.R_far (p := ⟨gb275, 3, none⟩) (Kd.R_far (p := ⟨gb275, 2, none⟩) (Kd.R_far (p := ⟨gb275, 1, none⟩) (Kd.R_far (p := ⟨gb275, 0, none⟩) (Kd.R_types HO274.out BK275.out (by decide)) (fun _ hk => hk.2) (.string (⟨#[99]⟩ : ByteArray))) (fun _ hk => hk.2) (.slice none 0 0)) (fun _ hk => hk.2) (.slice none 0 0)) (fun _ hk => hk.2) (.slice Ao27 y272.length co27)) (fun _ h_ => h_.1)))); rintro e w30 ⟨rfl, hb⟩; refine ⟨_, rfl, ?_⟩; replace HO274 := Aside0.mk (Kd.R_below (by (with_reducible repeat (first | apply Kd.R_alloc | apply Kd.R_drewN | apply Kd.R_drew)); exact (Kd.R_mono (Kd.R_far (p := ⟨gb275, 3, none⟩) (Kd.R_far (p := ⟨gb275, 2, none⟩) (Kd.R_far (p := ⟨gb275, 1, none⟩) (Kd.R_far (p := ⟨gb275, 0, none⟩) (Kd.R_types HO274.out BK275.out (by decide)) (fun _ hk => hk.2) (.string (⟨#[99]⟩ : ByteArray))) (fun _ hk => hk.2) (.slice none 0 0)) (fun _ hk => hk.2) (.slice none 0 0)) (fun _ hk => hk.2) (.slice Ao27 y272.length co27)) (fun _ h_ => h_.1))) hb); replace BK275 := Aside0.mk (blk_below (g := gb275) (o := .cells #[.string (⟨#[99]⟩ : ByteArray), .slice none 0 0, .slice none 0 0, .slice Ao27 y272.length co27] 26 (0, 0)) (by refine grO ?_; refine blk_put (cs := #[.string (⟨#[99]⟩ : ByteArray), .slice none 0 0, .slice none 0 0, .slice none 0 0]) ?_ 3 _ rfl; refine grO ?_; refine blk_put (cs := #[.string (⟨#[99]⟩ : ByteArray), .slice none 0 0, .slice none 0 0, .slice none 0 0]) ?_ 2 _ rfl; refine grO ?_; refine blk_put (cs := #[.string (⟨#[99]⟩ : ByteArray), .slice none 0 0, .slice none 0 0, .slice none 0 0]) ?_ 1 _ rfl; refine grO ?_; refine blk_put (cs := #[.string (⟨#[]⟩ : ByteArray), .slice none 0 0, .slice none 0 0, .slice none 0 0]) ?_ 0 _ rfl; refine grO ?_; exact BK275.out) hb); replace HB := ts_ HB hb; clear hb) | ((with_reducible refine gate_dst (N := 12) rfl ?_); (try (refine gate_guard (by rfl) ?_; dsimp only)); refine Kd.R_lit k46 _ 46 ?hg (N := 12) ?hd (xs := ([(⟨(⟨#[97]⟩ : ByteArray), 2, (-1), ([] : List (S76)), ([] : List (S76)), ([] : List (S54))⟩ : S46)] : List (S46))) (inner := [.string (⟨#[97]⟩ : ByteArray), .int .i64 2, .int .i64 (-1), .slice none 0 0, .slice none 0 0, .slice none 0 0]) (ok := fun _ => True) (okp := fun _ => True) ?hr ?hp (fun _ hk => hk) trivial (Below.refl _ _) (Nat.le_refl _) (by simp) ?_; (case hd => rfl); (case hg => rfl); (case hr => first | (go_simp; done) | (go_simp; rfl)); (case hp => exact (Reps.c6 (show Kd.M k46 _ _ _ (⟨(⟨#[97]⟩ : ByteArray), 2, (-1), ([] : List (S76)), ([] : List (S76)), ([] : List (S54))⟩ : S46) [.string (⟨#[97]⟩ : ByteArray), .int .i64 2, .int .i64 (-1), .slice none 0 0, .slice none 0 0, .slice none 0 0] from (k46_mkM _ _ _ (⟨(⟨#[97]⟩ : ByteArray), 2, (-1), ([] : List (S76)), ([] : List (S76)), ([] : List (S54))⟩ : S46) (Kd.R_nil _ _ _ _ _) (Kd.R_nil _ _ _ _ _) (Kd.R_nil _ _ _ _ _))) (Reps.none _ _))); intro v278 w31 ho32 hb hg_ hnew_; clear hg_ hnew_; (first | rw [← Ny277.out] at ho32 | (simp only [Int.reduceToNat] at ho32; rw [← Ny277.out] at ho32)); have HO279 := Aside0.mk (Kd.R_lower (Kd.R_new' ho32 (Kd.R_lt (kR_ HO274))) (below_size bw_)); replace HO274 := Aside0.mk (Kd.R_elder' (kR_ HO274) (Kd.R_base ho32) hb); replace BK275 := Aside0.mk (blk_below (g := gb275) (o := .cells #[.string (⟨#[99]⟩ : ByteArray), .slice none 0 0, .slice none 0 0, .slice Ao27 y272.length co27] 26 (0, 0)) (grw BK275.out) hb); replace HB := ts_ HB hb; clear hb ho32; obtain ⟨Ao33, co33, eo33⟩ := Kd.R_slice HO279.out; subst eo33; obtain ⟨z34_0, z34_1, z34_2, z34_3, y34_0, y34_1, y34_2, y34_3⟩ := cw4_ BK275.out) | ((with_reducible refine gate_callee (f := 8) rfl ?_); refine gl_ (some 16) Tryz.func8 #[.agg #[.string (⟨#[99]⟩ : ByteArray), .slice none 0 0, .slice none 0 0, .slice Ao33 y277.length co33]] ?_; (refine (sound_Of.calls k (⟨#[99]⟩ : ByteArray) _ _ ([] : List ByteArray) _ _ ([] : List (S50)) _ _ y277 t280 t283 _ ?side1 ?side2 ?side3 ?side4 ?side5 (Kd.R_reads' HO279.out).2.1 A2.out).mono ?_); (case side1 => exact Kd.C_nil _ _); (case side2 => exact Nat.le_refl _); (case side3 => exact Kd.C_nil _ _); (case side4 => exact Nat.le_refl _); (case side5 => refine (Kd.R_reads' (e := 46) (base := w.heap.size) (ok := fun k_ => (True ∧ some k_ ≠ (.slice Ao27 y272.length co27 : Value).ownBlock)) (n := y277.length) (c := co33) ?_).2.2; exact (by (with_reducible repeat (first | apply Kd.R_alloc | apply Kd.R_drewN | apply Kd.R_drew)); exact (Kd.R_mono (Kd.R_far (p := ⟨gb275, 3, none⟩) (Kd.R_types HO279.out BK275.out (by decide)) (fun _ hk => hk.2) (.slice Ao33 y277.length co33)) (fun _ h_ => h_.1)))); rintro e w35 ⟨v281, rfl, ho0, hb⟩; have hB_ := bu_ HB hb; refine ⟨_, rfl, ?_⟩; have HO282 := Aside0.mk (Kd.R_lower ho0 (below_size hB_)); replace HO274 := Aside0.mk (Kd.R_below (by (with_reducible repeat (first | apply Kd.R_alloc | apply Kd.R_drewN | apply Kd.R_drew)); exact (Kd.R_mono (Kd.R_far (p := ⟨gb275, 3, none⟩) (Kd.R_types HO274.out BK275.out (by decide)) (fun _ hk => hk.2) (.slice Ao33 y277.length co33)) (fun _ h_ => h_.1))) hb); replace HO279 := Aside0.mk (Kd.R_below (by (with_reducible repeat (first | apply Kd.R_alloc | apply Kd.R_drewN | apply Kd.R_drew)); exact (Kd.R_mono (Kd.R_far (p := ⟨gb275, 3, none⟩) (Kd.R_types HO279.out BK275.out (by decide)) (fun _ hk => hk.2) (.slice Ao33 y277.length co33)) (fun _ h_ => h_.1))) hb); replace BK275 := Aside0.mk (blk_below (g := gb275) (o := .cells #[.string (⟨#[99]⟩ : ByteArray), .slice none 0 0, .slice none 0 0, .slice Ao33 y277.length co33] 26 (0, 0)) (by refine grO ?_; refine blk_put (cs := #[.string (⟨#[99]⟩ : ByteArray), .slice none 0 0, .slice none 0 0, .slice Ao27 y272.length co27]) ?_ 3 _ rfl; refine grO ?_; exact BK275.out) hb); replace HB := Aside0.mk (below_step hB_ hb); clear hb; (try clear ho0); obtain ⟨Ao36, co36, eo36⟩ := Kd.R_slice HO282.out; subst eo36) | ((with_reducible refine gate_callee (f := 24) rfl ?_); refine gl_ (some 20) Tryz.func24 #[.slice Ao36 t280.length co36] ?_; (with_reducible refine (sound_Lines.calls k _ _ t280 t284 _ (kg_ (Kd.R_reads' HO282.out).2.2) (Kd.R_reads' HO282.out).2.1 A3.out).mono ?_); rintro e w37 ⟨v285, rfl, ho0, hb⟩; have hB_ := bu_ HB hb; refine ⟨_, rfl, ?_⟩; have HO286 := Aside0.mk (Kd.R_lower ho0 (below_size hB_)); replace HO274 := Aside0.mk (Kd.R_below (kR_ HO274) hb); replace HO279 := Aside0.mk (Kd.R_below (kR_ HO279) hb); replace HO282 := Aside0.mk (Kd.R_below (kR_ HO282) hb); replace BK275 := Aside0.mk (blk_below (g := gb275) (o := .cells #[.string (⟨#[99]⟩ : ByteArray), .slice none 0 0, .slice none 0 0, .slice Ao33 y277.length co33] 26 (0, 0)) (grw BK275.out) hb); replace HB := Aside0.mk (below_step hB_ hb); clear hb; (try clear ho0); obtain ⟨z38_0, z38_1, z38_2, z38_3, y38_0, y38_1, y38_2, y38_3⟩ := cw4_ BK275.out) | (go_at_call 9; (refine (sound_Is.calls k (⟨#[99]⟩ : ByteArray) _ _ ([] : List ByteArray) _ _ ([] : List (S50)) _ _ y277 false _ ?side1 ?side2 ?side3 ?side4 (kg_ (Kd.R_reads' HO279.out).2.2) (Kd.R_reads' HO279.out).2.1 A5.out).mono ?_); (case side1 => exact Kd.C_nil _ _); (case side2 => exact Nat.le_refl _); (case side3 => exact Kd.C_nil _ _); (case side4 => exact Nat.le_refl _); rintro e w39 ⟨rfl, hb⟩; replace HO274 := Aside0.mk (Kd.R_below (kR_ HO274) hb); replace HO279 := Aside0.mk (Kd.R_below (kR_ HO279) hb); replace HO282 := Aside0.mk (Kd.R_below (kR_ HO282) hb); replace HO286 := Aside0.mk (Kd.R_below (kR_ HO286) hb); replace BK275 := Aside0.mk (blk_below (g := gb275) (o := .cells #[.string (⟨#[99]⟩ : ByteArray), .slice none 0 0, .slice none 0 0, .slice Ao33 y277.length co33] 26 (0, 0)) (grw BK275.out) hb); replace HB := ts_ HB hb; clear hb; obtain ⟨Ao40, co40, eo40⟩ := Kd.R_slice HO286.out; subst eo40; have p288 : 0 ≤ (0 : Int) := (by omega); have q288 : 0 < (t284.length : Int) := of_decide_eq_true (by first | (with_reducible assumption) | assumption); obtain ⟨ad288, e288, hx288_0⟩ := Kd.at_string (Kd.R_reads' HO286.out).2.2 0 p288 q288; cases e288; have qi288 : (0 < t284.length) = True := eq_true (by omega); (try rw [show ((0 : Int)).toNat = 0 from rfl] at hx288_0); (try rw [Addr.add_zero'] at hx288_0); replace p288 := eq_true p288; replace q288 := eq_true q288))
 go_ret
 exact ⟨rv_, bw_⟩
set_option maxRecDepth 100000 in
theorem semblancelaw15_awake.calls (k : Nat)  (r : Bool) (w : World) (h : semblancelaw15_awake.f k  = some r) :
  Calls Tryz.prog 7 #[] w fun e w' => e = .returned (.bool r) ∧ Below w.heap.size w w' := by
 have hK : semblancelaw15_awake.f 60 = some true := by decide +kernel
 have a_ := at_rounds (g := fun n => semblancelaw15_awake.f n) (fun n => semblancelaw15_awake.mono n) (Nat.le_max_left k 60) h
 have b_ := at_rounds (g := fun n => semblancelaw15_awake.f n) (fun n => semblancelaw15_awake.mono n) (Nat.le_max_right k 60) hK
 exact semblancelaw15_awake.calls0 k r w (Option.some.inj (a_.symm.trans b_)) h

/-! ### semblanceref10_Kids: function 89 -/
def semblanceref10_Kids.l0 : Nat → List (S46) → Int → List Int → Int → Option (List Int)
  | 0, _, _, _, _ => none
  | k + 1, x0, x1, x5, x6 => if x6 < (x0.length : Int) then (if 0 ≤ x6 then (if ((rd_T46 x0 x6).f2) = x1 then (if x5.length < 17592186044416 then (semblanceref10_Kids.l0 k x0 x1 (x5 ++ [x6]) (wrap64 (x6 + 1))) else (none)) else (semblanceref10_Kids.l0 k x0 x1 x5 (wrap64 (x6 + 1)))) else (none)) else (some x5)
def semblanceref10_Kids.f (k : Nat) (l0 : List (S46)) (a1 : Int) : Option (List Int) := semblanceref10_Kids.l0 k l0 a1 (([] : List Int)) 0
theorem semblanceref10_Kids.mono_l : ∀ k, (∀ y0 y1 y2 y3, LeO (semblanceref10_Kids.l0 k y0 y1 y2 y3) (semblanceref10_Kids.l0 (k + 1) y0 y1 y2 y3))
  | 0 => fun _ _ _ _ r h => by simp [semblanceref10_Kids.l0] at h
  | k + 1 => by
    have ih0 := semblanceref10_Kids.mono_l k
    · intro y0 y1 y2 y3
      unfold semblanceref10_Kids.l0
      exact mo_
theorem semblanceref10_Kids.mono : ∀ a0 a1 k, LeO (semblanceref10_Kids.f k a0 a1) (semblanceref10_Kids.f (k + 1) a0 a1) := by
  intro a0 a1 k
  have ih0 := semblanceref10_Kids.mono_l k
  unfold semblanceref10_Kids.f
  exact mo_
instance semblanceref10_Kids.lc : ∀ a0 a1 k, LeC (semblanceref10_Kids.f k a0 a1) (semblanceref10_Kids.f (k + 1) a0 a1) := fun a0 a1 k => ⟨semblanceref10_Kids.mono a0 a1 k⟩
set_option maxHeartbeats 8000000 in
set_option maxRecDepth 100000 in
theorem semblanceref10_Kids.calls (k : Nat) (A0 : Option Addr) (c0 : Nat) (l0 : List (S46)) (a1 : Int) (r : List Int) (w : World) (hr0 : Kd.C k46 w A0 l0.length l0) (hc0 : l0.length ≤ c0) (h : semblanceref10_Kids.f k l0 a1 = some r) :
  Calls Tryz.prog 89 #[.slice A0 l0.length c0, .int .i64 a1] w fun e w' => ∃ v0_ : Value, e = .returned (v0_) ∧ Kd.R (Kd.int .i64) 3 w' w.heap.size (fun _ => True) v0_ r ∧ Below w.heap.size w w' := by
 have HR0 := Aside0.mk hr0
 have HC0 := Aside0.mk hc0
 clear hr0 hc0
 have HB := Aside0.mk (Below.refl w.heap.size w)
 unfold semblanceref10_Kids.f at h
 have H := h
 clear h
 obtain ⟨y289, hy289⟩ : ∃ y_ : List Int, y_ = (([] : List Int)) := ⟨_, rfl⟩
 replace H : (semblanceref10_Kids.l0 k l0 a1 y289 0) = some r := by first | (rw [hy289]; with_reducible exact H) | (have H2_ := (Option.bind_some _ _).symm.trans H; rw [hy289]; with_reducible exact H2_) | (have H2_ := (Option.bind_some _ _).symm.trans H; with_reducible exact H2_) | with_reducible exact H | (rw [hy289]; exact H) | exact H
 have Ny289 := Aside0.mk hy289
 clear hy289
 have H' := Aside0.mk H
 clear H
 go_enter Tryz.func89, Tryz.ntmps89
 go_wp2_with (first | ((with_reducible refine gate_dst (N := 7) rfl ?_); refine Kd.R_lit (Kd.int .i64) _ 3 ?hg (N := 7) ?hd (xs := ([] : List Int)) (inner := []) (ok := fun _ => True) (okp := fun _ => True) ?hr ?hp (fun _ hk => hk) trivial (Below.refl _ _) (Nat.le_refl _) (by simp) ?_; (case hd => rfl); (case hg => rfl); (case hr => first | (go_simp; done) | (go_simp; rfl)); (case hp => exact (Reps.none _ _)); intro v290 w3 ho4 hb hg_ hnew_; clear hg_ hnew_; (first | rw [← Ny289.out] at ho4 | (simp only [Int.reduceToNat] at ho4; rw [← Ny289.out] at ho4)); have HO291 := Aside0.mk (Kd.R_lower ho4 (below_size (brw HB.out))); replace HB := ts_ HB hb; clear hb ho4))
 go_loopg [5, 6] k (fun kq v5 v6 w' => ∃ (x5_1 : List Int) (x6_1 : Int), v6 = .int .i64 x6_1 ∧ Aside0 (semblanceref10_Kids.l0 kq l0 a1 x5_1 x6_1 = some r) ∧ Aside0 (kq ≤ k) ∧ Aside0 (Kd.R (Kd.int .i64) 3 w' w.heap.size (fun _ => True) v5 x5_1) ∧ Aside0 (Below w.heap.size w w'))
 case atStart => exact ⟨(y289), (0), rl_, H', ⟨Nat.le_refl _⟩, ⟨by (with_reducible repeat (first | apply Kd.R_alloc | apply Kd.R_drewN | apply Kd.R_drew)); exact HO291.out⟩, ⟨bw_⟩⟩
 case round =>
  clear H'
  obtain ⟨x5_1, x6_1, rfl, HA, HK1, HO_5, HB⟩ := hrel
  cases gk with
  | zero => exact absurd HA.out (by simp [semblanceref10_Kids.l0])
  | succ k1 =>
   have H := HA.out
   clear HA
   simp only [semblanceref10_Kids.l0] at H
   replace H := it_ H; obtain ⟨c5b0, H⟩ | ⟨c5b0, H⟩ := H
   ·obtain rfl := Option.some.inj H
    go_wp2
    go_ret
    exact ⟨_, rv_, by (with_reducible repeat (first | apply Kd.R_alloc | apply Kd.R_drewN | apply Kd.R_drew)); exact HO_5.out, by repeat (first | (with_reducible first | exact HB.out | apply below_alloc | apply pw_below_drewN | apply below_drew1) | exact HB.out)⟩

   replace H := is_ H; obtain ⟨c6b0, H⟩ := H
   replace H := ic_ H; obtain ⟨c7, H⟩ | ⟨c7, H⟩ := H
   ·have c7b0 : (((rd_T46 l0 x6_1).f2) == a1) = false := beq_eq_false_iff_ne.mpr c7
    have c7b1 : (((rd_T46 l0 x6_1).f2) != a1) = true := bne_iff_ne.mpr c7
    have H' := Aside0.mk H
    clear H
    obtain ⟨ad292, A292_3, c292_3, A292_4, c292_4, A292_5, c292_5, e292, hx292_0, hx292_1, hx292_2, hx292_3, hx292_4, hx292_5, HC292_3, HR292_3, HC292_4, HR292_4, HC292_5, HR292_5, p292, q292⟩ := au_T46 HR0 HB x6_1; cases e292
    go_wp2
    go_roundg k1
    case measure => have := HK1.out; omega
    case rel => exact ⟨(x5_1), (wrap64 (x6_1 + 1)), rl_, H', ⟨kn_ HK1⟩, ⟨by (with_reducible repeat (first | apply Kd.R_alloc | apply Kd.R_drewN | apply Kd.R_drew)); exact HO_5.out⟩, ⟨bw_⟩⟩
   have c7b0 : (((rd_T46 l0 x6_1).f2) == a1) = true := beq_iff_eq.mpr c7
   have c7b1 : (((rd_T46 l0 x6_1).f2) != a1) = false := bne_eq_false_iff_eq.mpr c7
   clear c7
   replace H := ip_ H; obtain ⟨c8, H⟩ := H
   have LMc8 := Aside0.mk c8
   clear c8
   obtain ⟨y293, hy293⟩ : ∃ y_ : List Int, y_ = (x5_1 ++ [x6_1]) := ⟨_, rfl⟩
   replace H : (semblanceref10_Kids.l0 k1 l0 a1 y293 (wrap64 (x6_1 + 1))) = some r := by first | (rw [hy293]; with_reducible exact H) | (have H2_ := (Option.bind_some _ _).symm.trans H; rw [hy293]; with_reducible exact H2_) | (have H2_ := (Option.bind_some _ _).symm.trans H; with_reducible exact H2_) | with_reducible exact H | (rw [hy293]; exact H) | exact H
   have Ny293 := Aside0.mk hy293
   clear hy293
   have H' := Aside0.mk H
   clear H
   obtain ⟨ad292, A292_3, c292_3, A292_4, c292_4, A292_5, c292_5, e292, hx292_0, hx292_1, hx292_2, hx292_3, hx292_4, hx292_5, HC292_3, HR292_3, HC292_4, HR292_4, HC292_5, HR292_5, p292, q292⟩ := au_T46 HR0 HB x6_1; cases e292
   go_wp2_with (first | ((with_reducible refine gate_builtin (b := .append) (xs := #[.tmp 21, .tmp 23]) rfl ?_); at_builtin; refine Kd.R_append (Kd.int .i64) (w0 := w) w.heap.size rfl (.tmp 21) (.tmp 23) 95 3 (.int .i64 0) 8 rfl Tryz.underlying95 info3 rfl (by decide) (by omega) u5 x5_1 x6_1 [.int .i64 x6_1] (fun _ => True) (fun _ => False) rfl rfl ?aP (fun _ hk => hk.elim) ?aF ?aO ?aB ?aS ?aL ?_; (case aP => exact rfl); (case aB => exact (brw HB.out)); (case aF => exact (fun _ _ => trivial)); (case aO => exact (kR_ HO_5)); (case aS => exact (below_size (brw HB.out))); (case aL => have := LMc8.out; omega); intro v294 w9 ho hb hg hat; rw [← Ny293.out] at ho; have HO295 := Aside0.mk (ho); replace HB := Aside0.mk (hb); clear ho hb hg hat))
   go_roundg k1
   case measure => have := HK1.out; omega
   case rel => exact ⟨(y293), (wrap64 (x6_1 + 1)), rl_, H', ⟨kn_ HK1⟩, ⟨by (with_reducible repeat (first | apply Kd.R_alloc | apply Kd.R_drewN | apply Kd.R_drew)); exact HO295.out⟩, ⟨bw_⟩⟩
/-! ### semblanceref14_item: function 57 -/
-- USES semblance/semblanceref12.May
-- USES semblance/semblanceref10.Kids
/-- does a chart keep to a rule at an item? -/
def semblanceref14_item.f (k : Nat) (_a0 : ByteArray) (l0_1 : List ByteArray) (l0_2 : List (S50)) (l0_3 : List (S46)) (rule i0 : Int) : Option Bool :=
  if 0 ≤ i0 then (
    if rule = 1 then (if i0 < (l0_1.length : Int) then some (!((List.range i0.toNat).any fun m => ((rdOf ByteArray.empty l0_1 (m : Int)).toList == (rdOf ByteArray.empty l0_1 i0).toList))) else none)
    else if rule = 2 then (if i0 < (l0_2.length : Int) then some (!((List.range i0.toNat).any fun m => (((rd_T50 l0_2 (m : Int)).f0).toList == ((rd_T50 l0_2 i0).f0).toList))) else none)
    else if rule = 3 then (if i0 < (l0_2.length : Int) then some (decide ((rd_T50 l0_2 i0).f1 ≤ (rd_T50 l0_2 i0).f3) && (decide ((rd_T50 l0_2 i0).f3 ≤ (rd_T50 l0_2 i0).f2) && decide (wrap64 ((rd_T50 l0_2 i0).f2 - (rd_T50 l0_2 i0).f1) < 64))) else none)
    else if rule = 4 then (if i0 < (l0_3.length : Int) then some (!((List.range i0.toNat).any fun m => (((rd_T46 l0_3 (m : Int)).f0).toList == ((rd_T46 l0_3 i0).f0).toList))) else none)
    else if rule = 5 then (if i0 < (l0_3.length : Int) then (semblanceref10_Kids.f k l0_3 i0).bind fun ks => some ((rd_T46 l0_3 i0).f1 == 1 || decide ((ks.length : Int) ≥ wrap64 ((rd_T46 l0_3 i0).f1 - 1))) else none)
    else some true)
  else none
theorem semblanceref14_item.mono : ∀ a0 l1 l2 l3 rule i k, LeO (semblanceref14_item.f k a0 l1 l2 l3 rule i) (semblanceref14_item.f (k + 1) a0 l1 l2 l3 rule i) := by
  intro a0 l1 l2 l3 rule i k
  unfold semblanceref14_item.f
  exact LeO.ite (LeO.ite (LeO.refl _) (LeO.ite (LeO.refl _) (LeO.ite (LeO.refl _) (LeO.ite (LeO.refl _) (LeO.ite (LeO.ite (LeO.bind (semblanceref10_Kids.mono _ _ k) (fun _ => LeO.refl _)) (LeO.refl _)) (LeO.refl _)))))) (LeO.refl _)
instance semblanceref14_item.lc : ∀ a0 l1 l2 l3 rule i k, LeC (semblanceref14_item.f k a0 l1 l2 l3 rule i) (semblanceref14_item.f (k + 1) a0 l1 l2 l3 rule i) := fun a0 l1 l2 l3 rule i k => ⟨semblanceref14_item.mono a0 l1 l2 l3 rule i k⟩
set_option maxHeartbeats 16000000 in
set_option maxRecDepth 100000 in
open Go.Proofs.YtbkaiojofgmbnaaGreat.XReg in
theorem semblanceref14_item.calls (k : Nat) (a0_0 : ByteArray) (A0_1 : Option Addr) (c0_1 : Nat) (l0_1 : List ByteArray) (A0_2 : Option Addr) (c0_2 : Nat) (l0_2 : List (S50)) (A0_3 : Option Addr) (c0_3 : Nat) (l0_3 : List (S46)) (a1 : Int) (a2 : Int) (r : Bool) (w : World) (hr0_1 : Kd.C Kd.string w A0_1 l0_1.length l0_1) (hc0_1 : l0_1.length ≤ c0_1) (hr0_2 : Kd.C k50 w A0_2 l0_2.length l0_2) (hc0_2 : l0_2.length ≤ c0_2) (hr0_3 : Kd.C k46 w A0_3 l0_3.length l0_3) (hc0_3 : l0_3.length ≤ c0_3) (h : semblanceref14_item.f k a0_0 l0_1 l0_2 l0_3 a1 a2 = some r) :
    Calls Tryz.prog 57 #[.agg #[.string a0_0, .slice A0_1 l0_1.length c0_1, .slice A0_2 l0_2.length c0_2, .slice A0_3 l0_3.length c0_3], .int .i64 a1, .int .i64 a2] w fun e w' => e = .returned (.bool r) ∧ Below w.heap.size w w' := by
  unfold semblanceref14_item.f at h
  split at h
  case isFalse => cases h
  case isTrue h0 =>
  obtain ⟨i, rfl⟩ : ∃ i : Nat, a2 = (i : Int) := ⟨a2.toNat, by omega⟩
  rw [Int.toNat_natCast] at h
  clear h0
  have hm1 := Kd.C_max hr0_1
  have hm2 := Kd.C_max hr0_2
  have hm3 := Kd.C_max hr0_3
  obtain ⟨w1, hw1⟩ : ∃ w1, w1 = w.alloc (.cells #[.string a0_0, .slice A0_1 l0_1.length c0_1, .slice A0_2 l0_2.length c0_2, .slice A0_3 l0_3.length c0_3] 26) := ⟨_, rfl⟩
  have hb1 : Below w.heap.size w w1 := by rw [hw1]; exact (Below.refl _ _).alloc (Nat.le_refl _) _
  have HK : Aside0 (w1.heap[w.heap.size]? = some (.cells #[.string a0_0, .slice A0_1 l0_1.length c0_1, .slice A0_2 l0_2.length c0_2, .slice A0_3 l0_3.length c0_3] 26 (0, 0))) := ⟨by rw [hw1]; exact heap_alloc_new w _⟩
  have HR1 := Aside0.mk (Kd.C_below hr0_1 hb1)
  have HR2 := Aside0.mk (Kd.C_below hr0_2 hb1)
  have HR3 := Aside0.mk (Kd.C_below hr0_3 hb1)
  have HCC := Aside0.mk (And.intro hc0_1 (And.intro hc0_2 hc0_3))
  have HB1 := Aside0.mk hb1
  have hu2 := Tryz.underlying26
  have hu3 := Tryz.underlying50
  have hu4 := Tryz.underlying46
  clear hr0_1 hr0_2 hr0_3 hb1 hc0_1 hc0_2 hc0_3
  by_cases d1 : a1 = 1
  · rw [if_pos d1] at h
    have d1b : (a1 == 1) = true := beq_iff_eq.mpr d1
    clear d1
    split at h
    case isFalse => cases h
    case isTrue hi =>
      have hi := Int.ofNat_lt.1 hi
      have HRR := Aside0.mk (Option.some.inj h)
      clear h
      subst hw1
      go_enter Tryz.func57, Tryz.ntmps57
      go_wp2_with fail
      generalize w.alloc (.cells #[.string a0_0, .slice A0_1 l0_1.length c0_1, .slice A0_2 l0_2.length c0_2, .slice A0_3 l0_3.length c0_3] 26) = w1 at *
      go_loopg [7] i (fun kq v9 wr => ∃ m : Nat, Aside0 (i - m = kq) ∧ Aside0 (m ≤ i) ∧ v9 = .int .i64 (m : Int) ∧ Aside0 (Below w1.heap.size w1 wr) ∧ Aside0 (∀ j : Nat, j < m → ((rdOf ByteArray.empty l0_1 (j : Int)).toList == (rdOf ByteArray.empty l0_1 (i : Int)).toList) = false))
      case atStart => exact ⟨0, ⟨rfl⟩, ⟨Nat.zero_le _⟩, rfl, ⟨Below.refl _ _⟩, ⟨fun j hj => absurd hj (Nat.not_lt_zero _)⟩⟩
      case round =>
        obtain ⟨m, HKQ, HM, rfl, HB, HP⟩ := hrel
        by_cases hm : m < i
        · have hlt : decide ((m : Int) < (i : Int)) = true := decide_eq_true (by omega)
          obtain ⟨ad, e_ad, hx⟩ := Kd.at_string HR1.out (m : Int) (by omega) (by omega)
          subst e_ad
          obtain ⟨ad2, e_ad2, hy⟩ := Kd.at_string HR1.out (i : Int) (by omega) (by omega)
          obtain rfl : ad = ad2 := Option.some.inj e_ad2
          rw [Int.toNat_natCast] at hx hy
          obtain ⟨x, hxx⟩ : ∃ x, rdOf ByteArray.empty l0_1 (m : Int) = x := ⟨_, rfl⟩
          obtain ⟨y, hyy⟩ : ∃ y, rdOf ByteArray.empty l0_1 (i : Int) = y := ⟨_, rfl⟩
          rw [hxx] at hx
          rw [hyy] at hy
          have HX := Aside0.mk (And.intro hxx hyy)
          have HSE : Aside0 (∀ w', Below w1.heap.size w1 w' → w'.cell? ⟨w.heap.size, 1, none⟩ = some (.slice (some ad) l0_1.length c0_1) ∧ w'.cell? (ad.add m) = some (.string x) ∧ w'.cell? (ad.add i) = some (.string y)) := ⟨fun w' hb => by
            obtain ⟨h0, h1, h2, h3⟩ := cz4_ (blk_below HK.out hb)
            exact ⟨h1, pw_cell_below hb hx, pw_cell_below hb hy⟩⟩
          clear hx hy hxx hyy
          have hmL : m < l0_1.length := by omega
          cases hq : (x.toList == y.toList) with
          | true =>
            have HRF := Aside0.mk (show false = r by rw [← HRR.out, List.any_eq_true.2 ⟨m, List.mem_range.2 hm, by rw [HX.out.1, HX.out.2]; exact hq⟩]; rfl)
            go_wp2_with fail
            refine rs_ 11 [0, 1, 2, 3, 4, 5, 6, 7, 8, 9, 10] (fun w' => w'.cell? ⟨w.heap.size, 1, none⟩ = some (.slice (some ad) l0_1.length c0_1) ∧ w'.cell? (ad.add m) = some (.string x) ∧ w'.cell? (ad.add i) = some (.string y)) rfl (by kernel_rfl) (HSE.out _ (below_drew1 HB.out)) (fun hHeld => ?_)
            iterate 11 (first | refine pq_ ?_ | refine tq_ hHeld ?_)
            have HBD := Aside0.mk (below_drew1 HB.out)
            refine dn_ (by kernel_rfl) ?_
            clear hHeld
            go_wp2
            go_ret
            exact ⟨by rw [← HRF.out]; try rfl, HB1.out.trans (HBD.out.mono HB1.out.size)⟩
          | false =>
            have HQ := Aside0.mk hq
            go_wp2_with fail
            refine rs_ 11 [0, 1, 2, 3, 4, 5, 6, 7, 8, 9, 10] (fun w' => w'.cell? ⟨w.heap.size, 1, none⟩ = some (.slice (some ad) l0_1.length c0_1) ∧ w'.cell? (ad.add m) = some (.string x) ∧ w'.cell? (ad.add i) = some (.string y)) rfl (by kernel_rfl) (HSE.out _ (below_drew1 HB.out)) (fun hHeld => ?_)
            iterate 11 (first | refine pq_ ?_ | refine tq_ hHeld ?_)
            have HBD := Aside0.mk (below_drew1 HB.out)
            refine dn_ (by kernel_rfl) ?_
            clear hHeld
            go_wp2
            go_roundg (i - (m + 1))
            case measure => have := HKQ.out; omega
            case rel =>
              refine ⟨m + 1, ⟨rfl⟩, ⟨hm⟩, by go_num, HBD, ⟨fun j hj => ?_⟩⟩
              by_cases e : j = m
              · subst e; rw [HX.out.1, HX.out.2]; exact HQ.out
              · exact HP.out j (by omega)
        · have hlt : decide ((m : Int) < (i : Int)) = false := decide_eq_false (by omega)
          have hml : m = i := by have := HM.out; omega
          have HRF := Aside0.mk (show true = r by
            rw [← HRR.out, show ((List.range i).any fun m => ((rdOf ByteArray.empty l0_1 (m : Int)).toList == (rdOf ByteArray.empty l0_1 (i : Int)).toList)) = false from ?_]
            · rfl
            · rw [List.any_eq_false]
              intro j hj
              rw [HP.out j (by have := List.mem_range.1 hj; omega)]
              decide)
          clear hml HP
          go_wp2
          go_ret
          exact ⟨by rw [← HRF.out]; try rfl, HB1.out.trans (HB.out.mono HB1.out.size)⟩
  rw [if_neg d1] at h
  have d1b : (a1 == 1) = false := beq_eq_false_iff_ne.mpr d1
  clear d1
  by_cases d2 : a1 = 2
  · rw [if_pos d2] at h
    have d2b : (a1 == 2) = true := beq_iff_eq.mpr d2
    clear d2
    split at h
    case isFalse => cases h
    case isTrue hi =>
      have hi := Int.ofNat_lt.1 hi
      have HRR := Aside0.mk (Option.some.inj h)
      clear h
      subst hw1
      go_enter Tryz.func57, Tryz.ntmps57
      go_wp2_with fail
      generalize w.alloc (.cells #[.string a0_0, .slice A0_1 l0_1.length c0_1, .slice A0_2 l0_2.length c0_2, .slice A0_3 l0_3.length c0_3] 26) = w1 at *
      go_loopg [8] i (fun kq v9 wr => ∃ m : Nat, Aside0 (i - m = kq) ∧ Aside0 (m ≤ i) ∧ v9 = .int .i64 (m : Int) ∧ Aside0 (Below w1.heap.size w1 wr) ∧ Aside0 (∀ j : Nat, j < m → (((rd_T50 l0_2 (j : Int)).f0).toList == ((rd_T50 l0_2 (i : Int)).f0).toList) = false))
      case atStart => exact ⟨0, ⟨rfl⟩, ⟨Nat.zero_le _⟩, rfl, ⟨Below.refl _ _⟩, ⟨fun j hj => absurd hj (Nat.not_lt_zero _)⟩⟩
      case round =>
        obtain ⟨m, HKQ, HM, rfl, HB, HP⟩ := hrel
        by_cases hm : m < i
        · have hlt : decide ((m : Int) < (i : Int)) = true := decide_eq_true (by omega)
          obtain ⟨ad, e_ad, hx,_⟩ := at_T50 HR2.out (m : Int) (by omega) (by omega)
          subst e_ad
          obtain ⟨ad2, e_ad2, hy,_⟩ := at_T50 HR2.out (i : Int) (by omega) (by omega)
          obtain rfl : ad = ad2 := Option.some.inj e_ad2
          rw [Int.toNat_natCast] at hx hy
          obtain ⟨x, hxx⟩ : ∃ x, (rd_T50 l0_2 (m : Int)).f0 = x := ⟨_, rfl⟩
          obtain ⟨y, hyy⟩ : ∃ y, (rd_T50 l0_2 (i : Int)).f0 = y := ⟨_, rfl⟩
          rw [hxx] at hx
          rw [hyy] at hy
          have HX := Aside0.mk (And.intro hxx hyy)
          have HSE : Aside0 (∀ w', Below w1.heap.size w1 w' → w'.cell? ⟨w.heap.size, 2, none⟩ = some (.slice (some ad) l0_2.length c0_2) ∧ w'.cell? (ad.add (m * 4)) = some (.string x) ∧ w'.cell? (ad.add (i * 4)) = some (.string y)) := ⟨fun w' hb => by
            obtain ⟨h0, h1, h2, h3⟩ := cz4_ (blk_below HK.out hb)
            exact ⟨h2, pw_cell_below hb hx, pw_cell_below hb hy⟩⟩
          clear hx hy hxx hyy
          have hmL : m < l0_2.length := by omega
          cases hq : (x.toList == y.toList) with
          | true =>
            have HRF := Aside0.mk (show false = r by rw [← HRR.out, List.any_eq_true.2 ⟨m, List.mem_range.2 hm, by rw [HX.out.1, HX.out.2]; exact hq⟩]; rfl)
            go_wp2_with fail
            refine rs_ 13 [0, 1, 2, 3, 4, 5, 6, 7, 8, 9, 10, 11, 12] (fun w' => w'.cell? ⟨w.heap.size, 2, none⟩ = some (.slice (some ad) l0_2.length c0_2) ∧ w'.cell? (ad.add (m * 4)) = some (.string x) ∧ w'.cell? (ad.add (i * 4)) = some (.string y)) rfl (by kernel_rfl) (HSE.out _ (below_drew1 HB.out)) (fun hHeld => ?_)
            iterate 13 (first | refine pq_ ?_ | refine tq_ hHeld ?_)
            have HBD := Aside0.mk (below_drew1 HB.out)
            refine dn_ (by kernel_rfl) ?_
            clear hHeld
            go_wp2
            go_ret
            exact ⟨by rw [← HRF.out]; try rfl, HB1.out.trans (HBD.out.mono HB1.out.size)⟩
          | false =>
            have HQ := Aside0.mk hq
            go_wp2_with fail
            refine rs_ 13 [0, 1, 2, 3, 4, 5, 6, 7, 8, 9, 10, 11, 12] (fun w' => w'.cell? ⟨w.heap.size, 2, none⟩ = some (.slice (some ad) l0_2.length c0_2) ∧ w'.cell? (ad.add (m * 4)) = some (.string x) ∧ w'.cell? (ad.add (i * 4)) = some (.string y)) rfl (by kernel_rfl) (HSE.out _ (below_drew1 HB.out)) (fun hHeld => ?_)
            iterate 13 (first | refine pq_ ?_ | refine tq_ hHeld ?_)
            have HBD := Aside0.mk (below_drew1 HB.out)
            refine dn_ (by kernel_rfl) ?_
            clear hHeld
            go_wp2
            go_roundg (i - (m + 1))
            case measure => have := HKQ.out; omega
            case rel =>
              refine ⟨m + 1, ⟨rfl⟩, ⟨hm⟩, by go_num, HBD, ⟨fun j hj => ?_⟩⟩
              by_cases e : j = m
              · subst e; rw [HX.out.1, HX.out.2]; exact HQ.out
              · exact HP.out j (by omega)
        · have hlt : decide ((m : Int) < (i : Int)) = false := decide_eq_false (by omega)
          have hml : m = i := by have := HM.out; omega
          have HRF := Aside0.mk (show true = r by
            rw [← HRR.out, show ((List.range i).any fun m => (((rd_T50 l0_2 (m : Int)).f0).toList == ((rd_T50 l0_2 (i : Int)).f0).toList)) = false from ?_]
            · rfl
            · rw [List.any_eq_false]
              intro j hj
              rw [HP.out j (by have := List.mem_range.1 hj; omega)]
              decide)
          clear hml HP
          go_wp2
          go_ret
          exact ⟨by rw [← HRF.out]; try rfl, HB1.out.trans (HB.out.mono HB1.out.size)⟩
  rw [if_neg d2] at h
  have d2b : (a1 == 2) = false := beq_eq_false_iff_ne.mpr d2
  clear d2
  by_cases d3 : a1 = 3
  · rw [if_pos d3] at h
    have d3b : (a1 == 3) = true := beq_iff_eq.mpr d3
    clear d3
    split at h
    case isFalse => cases h
    case isTrue hi =>
      have hi := Int.ofNat_lt.1 hi
      obtain ⟨ad, e1, hx0, hx1, hx2, hx3⟩ := at_T50 HR2.out (i : Int) (by omega) (by omega)
      subst e1
      rw [Int.toNat_natCast] at hx0 hx1 hx2 hx3
      generalize rd_T50 l0_2 (i : Int) = x at *
      have HRR := Aside0.mk (Option.some.inj h)
      clear h
      subst hw1
      cases h1 : decide (x.f1 ≤ x.f3) <;> cases h2 : decide (x.f3 ≤ x.f2) <;> cases h3 : decide (wrap64 (x.f2 - x.f1) < 64) <;>
        (rw [h1, h2, h3] at HRR
         go_enter Tryz.func57, Tryz.ntmps57
         go_wp2_with (first | ((with_reducible refine gate_dst (N := 9) rfl ?_); refine box_event ?hg (N := 9) ?hd (cs := #[.string (⟨#[]⟩ : ByteArray), .int .i64 0, .int .i64 0, .int .i64 0]) (t := 50) ?hr ?_; (case hd => rfl); (case hg => rfl); (case hr => first | (go_simp; done) | (go_simp; rfl)); intro g hg u1 hbox hb; have HGE := Aside0.mk (Nat.le_of_eq hg.symm); clear hg) | (refine box_put (vs := #[.string x.f0, .int .i64 x.f1, .int .i64 x.f2, .int .i64 x.f3]) rfl rfl (.tmp 9) (.tmp 57) rfl rfl rfl hbox (by kernel_rfl) rfl (by simp [Value.oneCell']) hb HGE.out ?_; intro u2 hbox2 hb2; have HB3 := Aside0.mk hb2; obtain ⟨hz0, hz1, hz2, hz3⟩ := cz4_ hbox2; clear hbox hb hbox2 hb2))
         go_ret
         exact ⟨by rw [← HRR.out]; try rfl, HB1.out.trans (HB3.out.mono HB1.out.size)⟩)
  rw [if_neg d3] at h
  have d3b : (a1 == 3) = false := beq_eq_false_iff_ne.mpr d3
  clear d3
  by_cases d4 : a1 = 4
  · rw [if_pos d4] at h
    have d4b : (a1 == 4) = true := beq_iff_eq.mpr d4
    clear d4
    split at h
    case isFalse => cases h
    case isTrue hi =>
      have hi := Int.ofNat_lt.1 hi
      have HRR := Aside0.mk (Option.some.inj h)
      clear h
      subst hw1
      go_enter Tryz.func57, Tryz.ntmps57
      go_wp2_with fail
      generalize w.alloc (.cells #[.string a0_0, .slice A0_1 l0_1.length c0_1, .slice A0_2 l0_2.length c0_2, .slice A0_3 l0_3.length c0_3] 26) = w1 at *
      go_loopg [10] i (fun kq v9 wr => ∃ m : Nat, Aside0 (i - m = kq) ∧ Aside0 (m ≤ i) ∧ v9 = .int .i64 (m : Int) ∧ Aside0 (Below w1.heap.size w1 wr) ∧ Aside0 (∀ j : Nat, j < m → (((rd_T46 l0_3 (j : Int)).f0).toList == ((rd_T46 l0_3 (i : Int)).f0).toList) = false))
      case atStart => exact ⟨0, ⟨rfl⟩, ⟨Nat.zero_le _⟩, rfl, ⟨Below.refl _ _⟩, ⟨fun j hj => absurd hj (Nat.not_lt_zero _)⟩⟩
      case round =>
        obtain ⟨m, HKQ, HM, rfl, HB, HP⟩ := hrel
        by_cases hm : m < i
        · have hlt : decide ((m : Int) < (i : Int)) = true := decide_eq_true (by omega)
          obtain ⟨ad, _, _, _, _, _, _, e_ad, hx,_⟩ := at_T46 HR3.out (m : Int) (by omega) (by omega)
          subst e_ad
          obtain ⟨ad2, _, _, _, _, _, _, e_ad2, hy,_⟩ := at_T46 HR3.out (i : Int) (by omega) (by omega)
          obtain rfl : ad = ad2 := Option.some.inj e_ad2
          rw [Int.toNat_natCast] at hx hy
          obtain ⟨x, hxx⟩ : ∃ x, (rd_T46 l0_3 (m : Int)).f0 = x := ⟨_, rfl⟩
          obtain ⟨y, hyy⟩ : ∃ y, (rd_T46 l0_3 (i : Int)).f0 = y := ⟨_, rfl⟩
          rw [hxx] at hx
          rw [hyy] at hy
          have HX := Aside0.mk (And.intro hxx hyy)
          have HSE : Aside0 (∀ w', Below w1.heap.size w1 w' → w'.cell? ⟨w.heap.size, 3, none⟩ = some (.slice (some ad) l0_3.length c0_3) ∧ w'.cell? (ad.add (m * 6)) = some (.string x) ∧ w'.cell? (ad.add (i * 6)) = some (.string y)) := ⟨fun w' hb => by
            obtain ⟨h0, h1, h2, h3⟩ := cz4_ (blk_below HK.out hb)
            exact ⟨h3, pw_cell_below hb hx, pw_cell_below hb hy⟩⟩
          clear hx hy hxx hyy
          have hmL : m < l0_3.length := by omega
          cases hq : (x.toList == y.toList) with
          | true =>
            have HRF := Aside0.mk (show false = r by rw [← HRR.out, List.any_eq_true.2 ⟨m, List.mem_range.2 hm, by rw [HX.out.1, HX.out.2]; exact hq⟩]; rfl)
            go_wp2_with fail
            refine rs_ 13 [0, 1, 2, 3, 4, 5, 6, 7, 8, 9, 10, 11, 12] (fun w' => w'.cell? ⟨w.heap.size, 3, none⟩ = some (.slice (some ad) l0_3.length c0_3) ∧ w'.cell? (ad.add (m * 6)) = some (.string x) ∧ w'.cell? (ad.add (i * 6)) = some (.string y)) rfl (by kernel_rfl) (HSE.out _ (below_drew1 HB.out)) (fun hHeld => ?_)
            iterate 13 (first | refine pq_ ?_ | refine tq_ hHeld ?_)
            have HBD := Aside0.mk (below_drew1 HB.out)
            refine dn_ (by kernel_rfl) ?_
            clear hHeld
            go_wp2
            go_ret
            exact ⟨by rw [← HRF.out]; try rfl, HB1.out.trans (HBD.out.mono HB1.out.size)⟩
          | false =>
            have HQ := Aside0.mk hq
            go_wp2_with fail
            refine rs_ 13 [0, 1, 2, 3, 4, 5, 6, 7, 8, 9, 10, 11, 12] (fun w' => w'.cell? ⟨w.heap.size, 3, none⟩ = some (.slice (some ad) l0_3.length c0_3) ∧ w'.cell? (ad.add (m * 6)) = some (.string x) ∧ w'.cell? (ad.add (i * 6)) = some (.string y)) rfl (by kernel_rfl) (HSE.out _ (below_drew1 HB.out)) (fun hHeld => ?_)
            iterate 13 (first | refine pq_ ?_ | refine tq_ hHeld ?_)
            have HBD := Aside0.mk (below_drew1 HB.out)
            refine dn_ (by kernel_rfl) ?_
            clear hHeld
            go_wp2
            go_roundg (i - (m + 1))
            case measure => have := HKQ.out; omega
            case rel =>
              refine ⟨m + 1, ⟨rfl⟩, ⟨hm⟩, by go_num, HBD, ⟨fun j hj => ?_⟩⟩
              by_cases e : j = m
              · subst e; rw [HX.out.1, HX.out.2]; exact HQ.out
              · exact HP.out j (by omega)
        · have hlt : decide ((m : Int) < (i : Int)) = false := decide_eq_false (by omega)
          have hml : m = i := by have := HM.out; omega
          have HRF := Aside0.mk (show true = r by
            rw [← HRR.out, show ((List.range i).any fun m => (((rd_T46 l0_3 (m : Int)).f0).toList == ((rd_T46 l0_3 (i : Int)).f0).toList)) = false from ?_]
            · rfl
            · rw [List.any_eq_false]
              intro j hj
              rw [HP.out j (by have := List.mem_range.1 hj; omega)]
              decide)
          clear hml HP
          go_wp2
          go_ret
          exact ⟨by rw [← HRF.out]; try rfl, HB1.out.trans (HB.out.mono HB1.out.size)⟩
  rw [if_neg d4] at h
  have d4b : (a1 == 4) = false := beq_eq_false_iff_ne.mpr d4
  clear d4
  by_cases d5 : a1 = 5
  · rw [if_pos d5] at h
    have d5b : (a1 == 5) = true := beq_iff_eq.mpr d5
    clear d5
    split at h
    case isFalse => cases h
    case isTrue hi =>
      have hi := Int.ofNat_lt.1 hi
      obtain ⟨ks, hks, h⟩ := Option.bind_eq_some_iff.mp h
      obtain ⟨ad, _, _, _, _, _, _, e1, hx0, hx1, _⟩ := at_T46 HR3.out (i : Int) (by omega) (by omega)
      subst e1
      rw [Int.toNat_natCast] at hx0 hx1
      generalize rd_T46 l0_3 (i : Int) = x at *
      have HRR := Aside0.mk (Option.some.inj h)
      have HKS := Aside0.mk hks
      clear h hks
      subst hw1
      cases h1 : (x.f1 == 1) <;> cases h2 : decide ((ks.length : Int) ≥ wrap64 (x.f1 - 1)) <;>
        (rw [h1, h2] at HRR
         go_enter Tryz.func57, Tryz.ntmps57
         go_wp2_with (go_at_call 89; (with_reducible refine (semblanceref10_Kids.calls k _ c0_3 l0_3 (i : Int) ks _ HR3.out HCC.out.2.2 HKS.out).mono ?_); rintro e w4 ⟨v4, rfl, hR4, hb4⟩; obtain ⟨A9, c9, rfl⟩ := Kd.R_slice hR4; have HB4 := Aside0.mk hb4; have hx1' := pw_cell_below hb4 hx1; obtain ⟨hd0, hd1, hd2, hd3⟩ := cz4_ (blk_below HK.out hb4); clear hR4 hb4)
         go_ret
         exact ⟨by rw [← HRR.out]; try rfl, HB1.out.trans (HB4.out.mono HB1.out.size)⟩)
  · rw [if_neg d5] at h
    obtain rfl := Option.some.inj h
    have d5b : (a1 == 5) = false := beq_eq_false_iff_ne.mpr d5
    clear d5 h
    subst hw1
    go_enter Tryz.func57, Tryz.ntmps57
    go_wp2
    go_ret
    exact ⟨by try rfl, HB1.out⟩


/-! ### semblanceref14_HasVar: function 90 -/
def semblanceref14_HasVar.l0 : Nat → ByteArray → Int → ByteArray → List ByteArray → List (S50) → List (S46) → Option (Bool)
  | 0, _, _, _, _, _, _ => none
  | k + 1, x1, x5, x297000, x297001, x297002, x297003 => if x5 < (x297002.length : Int) then (if 0 ≤ x5 then (if ((rd_T50 x297002 x5).f0).toList = x1.toList then (some true) else (semblanceref14_HasVar.l0 k x1 (wrap64 (x5 + 1)) x297000 x297001 x297002 x297003)) else (none)) else (some false)
def semblanceref14_HasVar.f (k : Nat) (a0_0 : ByteArray) (l0_1 : List ByteArray) (l0_2 : List (S50)) (l0_3 : List (S46)) (a1 : ByteArray) : Option (Bool) := semblanceref14_HasVar.l0 k a1 0 a0_0 l0_1 l0_2 l0_3
theorem semblanceref14_HasVar.mono_l : ∀ k, (∀ y0 y1 y2 y3 y4 y5, LeO (semblanceref14_HasVar.l0 k y0 y1 y2 y3 y4 y5) (semblanceref14_HasVar.l0 (k + 1) y0 y1 y2 y3 y4 y5))
  | 0 => fun _ _ _ _ _ _ r h => by simp [semblanceref14_HasVar.l0] at h
  | k + 1 => by
    have ih0 := semblanceref14_HasVar.mono_l k
    · intro y0 y1 y2 y3 y4 y5
      unfold semblanceref14_HasVar.l0
      exact mo_
theorem semblanceref14_HasVar.mono : ∀ a0 a1 a2 a3 a4 k, LeO (semblanceref14_HasVar.f k a0 a1 a2 a3 a4) (semblanceref14_HasVar.f (k + 1) a0 a1 a2 a3 a4) := by
  intro a0 a1 a2 a3 a4 k
  have ih0 := semblanceref14_HasVar.mono_l k
  unfold semblanceref14_HasVar.f
  exact mo_
instance semblanceref14_HasVar.lc : ∀ a0 a1 a2 a3 a4 k, LeC (semblanceref14_HasVar.f k a0 a1 a2 a3 a4) (semblanceref14_HasVar.f (k + 1) a0 a1 a2 a3 a4) := fun a0 a1 a2 a3 a4 k => ⟨semblanceref14_HasVar.mono a0 a1 a2 a3 a4 k⟩
set_option maxHeartbeats 8000000 in
set_option maxRecDepth 100000 in
theorem semblanceref14_HasVar.calls (k : Nat) (a0_0 : ByteArray) (A0_1 : Option Addr) (c0_1 : Nat) (l0_1 : List ByteArray) (A0_2 : Option Addr) (c0_2 : Nat) (l0_2 : List (S50)) (A0_3 : Option Addr) (c0_3 : Nat) (l0_3 : List (S46)) (a1 : ByteArray) (r : Bool) (w : World) (hr0_1 : Kd.C Kd.string w A0_1 l0_1.length l0_1) (hc0_1 : l0_1.length ≤ c0_1) (hr0_2 : Kd.C k50 w A0_2 l0_2.length l0_2) (hc0_2 : l0_2.length ≤ c0_2) (hr0_3 : Kd.C k46 w A0_3 l0_3.length l0_3) (hc0_3 : l0_3.length ≤ c0_3) (h : semblanceref14_HasVar.f k a0_0 l0_1 l0_2 l0_3 a1 = some r) :
  Calls Tryz.prog 90 #[.agg #[.string a0_0, .slice A0_1 l0_1.length c0_1, .slice A0_2 l0_2.length c0_2, .slice A0_3 l0_3.length c0_3], .string a1] w fun e w' => e = .returned (.bool r) ∧ Below w.heap.size w w' := by
 have hu26 := Tryz.underlying26
 have HR0_1 := Aside0.mk hr0_1
 have HC0_1 := Aside0.mk hc0_1
 clear hr0_1 hc0_1
 have HR0_2 := Aside0.mk hr0_2
 have HC0_2 := Aside0.mk hc0_2
 clear hr0_2 hc0_2
 have HR0_3 := Aside0.mk hr0_3
 have HC0_3 := Aside0.mk hc0_3
 clear hr0_3 hc0_3
 have HB := Aside0.mk (Below.refl w.heap.size w)
 unfold semblanceref14_HasVar.f at h
 have H := h
 clear h
 have H' := Aside0.mk H
 clear H
 go_enter Tryz.func90, Tryz.ntmps90
 go_wp2_with (first | ((with_reducible refine gate_dst (N := 2) rfl ?_); refine bx_ HB (N := 2) (cs := #[.string a0_0, .slice A0_1 l0_1.length c0_1, .slice A0_2 l0_2.length c0_2, .slice A0_3 l0_3.length c0_3]) (t := 26) ?_; clear HB; intro gb296 w3 HB BK296 GW296 GE296))
 go_loopg [5] k (fun kq v5 w' => ∃ (x5_1 : Int), v5 = .int .i64 x5_1 ∧ Aside0 (semblanceref14_HasVar.l0 kq a1 x5_1 a0_0 l0_1 l0_2 l0_3 = some r) ∧ Aside0 (kq ≤ k) ∧ Aside0 (w'.heap[gb296]? = some (.cells #[.string a0_0, (.slice A0_1 l0_1.length c0_1), (.slice A0_2 l0_2.length c0_2), (.slice A0_3 l0_3.length c0_3)] 26 (0, 0))) ∧ Aside0 (Below w.heap.size w w'))
 case atStart => exact ⟨(0), rl_, H', ⟨Nat.le_refl _⟩, ⟨grw BK296.out⟩, ⟨bw_⟩⟩
 case round =>
  clear H'
  obtain ⟨x5_1, rfl, HA, HK1, BK296, HB⟩ := hrel
  cases gk with
  | zero => exact absurd HA.out (by simp [semblanceref14_HasVar.l0])
  | succ k1 =>
   have H := HA.out
   clear HA
   simp only [semblanceref14_HasVar.l0] at H
   replace H := it_ H; obtain ⟨c4b0, H⟩ | ⟨c4b0, H⟩ := H
   ·obtain rfl := Option.some.inj H
    obtain ⟨z9_0, z9_1, z9_2, z9_3, y9_0, y9_1, y9_2, y9_3⟩ := cw4_ BK296.out
    go_wp2
    go_ret
    exact ⟨rv_, bw_⟩

   replace H := is_ H; obtain ⟨c5b0, H⟩ := H
   replace H := id_ H; obtain ⟨c6, H⟩ | ⟨c6, H⟩ := H
   ·have c6b0 : (((rd_T50 l0_2 x5_1).f0).toList == a1.toList) = true := beq_iff_eq.mpr c6
    have c6b1 : (((rd_T50 l0_2 x5_1).f0).toList != a1.toList) = false := bne_eq_false_iff_eq.mpr c6
    clear c6
    obtain rfl := Option.some.inj H
    obtain ⟨z7_0, z7_1, z7_2, z7_3, y7_0, y7_1, y7_2, y7_3⟩ := cw4_ BK296.out
    obtain ⟨ad297, e297, hx297_0, hx297_1, hx297_2, hx297_3, p297, q297⟩ := au_T50 HR0_2 HB x5_1; cases e297
    go_wp2
    go_ret
    exact ⟨rv_, bw_⟩
   have c6b0 : (((rd_T50 l0_2 x5_1).f0).toList == a1.toList) = false := beq_eq_false_iff_ne.mpr c6
   have c6b1 : (((rd_T50 l0_2 x5_1).f0).toList != a1.toList) = true := bne_iff_ne.mpr c6
   have H' := Aside0.mk H
   clear H
   obtain ⟨z8_0, z8_1, z8_2, z8_3, y8_0, y8_1, y8_2, y8_3⟩ := cw4_ BK296.out
   obtain ⟨ad297, e297, hx297_0, hx297_1, hx297_2, hx297_3, p297, q297⟩ := au_T50 HR0_2 HB x5_1; cases e297
   go_wp2
   go_roundg k1
   case measure => have := HK1.out; omega
   case rel => exact ⟨(wrap64 (x5_1 + 1)), rl_, H', ⟨kn_ HK1⟩, ⟨grw BK296.out⟩, ⟨bw_⟩⟩
end Go.Proofs.YtbkaiojofgmbnaaGreat.XS
