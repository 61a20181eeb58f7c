-- written by wip/xprint.py out of the translation
import Derived.Test.YtbkaiojofgmbnaaXShort
import Derived.Test.YtbkaiojofgmbnaaXLp0
namespace Go.Proofs.Ytbkaiojofgmbnaa.XL
open Go.Proofs.Ytbkaiojofgmbnaa.XShort Go.Proofs.Ytbkaiojofgmbnaa.XReg Go.Proofs.Ytbkaiojofgmbnaa.XGrow Go.RowKit Go.Proofs.YtbkaiojofgmbnaaW.PrintWords Go.Proofs.YtbkaiojofgmbnaaW.PrintLast Go.Proofs.YtbkaiojofgmbnaaW.PrintMore
attribute [local go_sem] max2_int min2_int max_two min_two max_three min_three max_four min_four   -- for this text's walks alone
set_option linter.unusedVariables false
set_option linter.unusedSimpArgs false

/-! ### sound_Word: function 36 -/
/-- the rules' words -/
def sound_Word.ws : List ByteArray := [(⟨#[]⟩ : ByteArray), (⟨#[101, 118, 101, 110, 116]⟩ : ByteArray), (⟨#[118, 97, 114]⟩ : ByteArray), (⟨#[114, 97, 110, 103, 101]⟩ : ByteArray), (⟨#[110, 97, 109, 101]⟩ : ByteArray), (⟨#[107, 105, 100, 115]⟩ : ByteArray), (⟨#[111, 110]⟩ : ByteArray), (⟨#[116, 97, 114, 103, 101, 116]⟩ : ByteArray), (⟨#[103, 117, 97, 114, 100]⟩ : ByteArray), (⟨#[97, 99, 116, 115]⟩ : ByteArray), (⟨#[101, 100, 103, 101]⟩ : ByteArray)]
def sound_Word.f (a0 : Int) : Option ByteArray := some (if a0 < 0 then ⟨#[]⟩ else rdOf ByteArray.empty sound_Word.ws a0)
theorem sound_Word.cell : ∀ n : Nat, n < 11 → (#[.string (⟨#[]⟩ : ByteArray), .string (⟨#[101, 118, 101, 110, 116]⟩ : ByteArray), .string (⟨#[118, 97, 114]⟩ : ByteArray), .string (⟨#[114, 97, 110, 103, 101]⟩ : ByteArray), .string (⟨#[110, 97, 109, 101]⟩ : ByteArray), .string (⟨#[107, 105, 100, 115]⟩ : ByteArray), .string (⟨#[111, 110]⟩ : ByteArray), .string (⟨#[116, 97, 114, 103, 101, 116]⟩ : ByteArray), .string (⟨#[103, 117, 97, 114, 100]⟩ : ByteArray), .string (⟨#[97, 99, 116, 115]⟩ : ByteArray), .string (⟨#[101, 100, 103, 101]⟩ : ByteArray)] : Array Value)[n]? = some (.string (rdOf ByteArray.empty sound_Word.ws (n : Int)))
  | 0, _ => rfl
  | 1, _ => rfl
  | 2, _ => rfl
  | 3, _ => rfl
  | 4, _ => rfl
  | 5, _ => rfl
  | 6, _ => rfl
  | 7, _ => rfl
  | 8, _ => rfl
  | 9, _ => rfl
  | 10, _ => rfl
  | n + 11, h => absurd h (by omega)
set_option maxHeartbeats 4000000 in
set_option maxRecDepth 100000 in
theorem sound_Word.calls (a0 : Int) (r : ByteArray) (w : World) (h : sound_Word.f a0 = some r) : Calls Try.prog 36 #[.int .i64 a0] w fun e w' => e = .returned (.string r) ∧ Below w.heap.size w w' := by
  have HR := Aside0.mk (Option.some.inj h)
  clear h
  by_cases c1 : a0 < 0
  · have d1 : decide (a0 < 0) = true := decide_eq_true c1
    rw [if_pos c1] at HR
    clear c1
    go_enter Try.func36, Try.ntmps36
    go_wp2_with (first | ((with_reducible refine gate_dst (N := 3) rfl ?_); refine box_store rfl rfl (N := 3) rfl rfl (cs := #[.string (⟨#[]⟩ : ByteArray), .string (⟨#[]⟩ : ByteArray), .string (⟨#[]⟩ : ByteArray), .string (⟨#[]⟩ : ByteArray), .string (⟨#[]⟩ : ByteArray), .string (⟨#[]⟩ : ByteArray), .string (⟨#[]⟩ : ByteArray), .string (⟨#[]⟩ : ByteArray), .string (⟨#[]⟩ : ByteArray), .string (⟨#[]⟩ : ByteArray), .string (⟨#[]⟩ : ByteArray)]) (vs := #[.string (⟨#[]⟩ : ByteArray), .string (⟨#[101, 118, 101, 110, 116]⟩ : ByteArray), .string (⟨#[118, 97, 114]⟩ : ByteArray), .string (⟨#[114, 97, 110, 103, 101]⟩ : ByteArray), .string (⟨#[110, 97, 109, 101]⟩ : ByteArray), .string (⟨#[107, 105, 100, 115]⟩ : ByteArray), .string (⟨#[111, 110]⟩ : ByteArray), .string (⟨#[116, 97, 114, 103, 101, 116]⟩ : ByteArray), .string (⟨#[103, 117, 97, 114, 100]⟩ : ByteArray), .string (⟨#[97, 99, 116, 115]⟩ : ByteArray), .string (⟨#[101, 100, 103, 101]⟩ : ByteArray)]) (t := 117) (.tmp 4) ?hr rfl (fun _ => rfl) (fun _ => rfl) (by kernel_rfl) rfl (by simp [Value.oneCell']) ?_; (case hr => first | (go_simp; done) | (go_simp; rfl)); intro gb hg w3 hbox hb; have HB := Aside0.mk hb; have HBX := Aside0.mk hbox; clear hbox hb hg))
    go_ret
    exact ⟨by rw [← HR.out]; rfl, HB.out⟩
  rw [if_neg c1] at HR
  have d1 : decide (a0 < 0) = false := decide_eq_false c1
  by_cases c2 : 11 ≤ a0
  · have d2 : decide (11 ≤ a0) = true := decide_eq_true c2
    have HE := Aside0.mk (show rdOf ByteArray.empty sound_Word.ws a0 = (⟨#[]⟩ : ByteArray) by
      unfold rdOf
      rw [List.getD, List.getElem?_eq_none (show sound_Word.ws.length ≤ a0.toNat by show 11 ≤ a0.toNat; omega)]; rfl)
    clear c1 c2
    go_enter Try.func36, Try.ntmps36
    go_wp2_with (first | ((with_reducible refine gate_dst (N := 3) rfl ?_); refine box_store rfl rfl (N := 3) rfl rfl (cs := #[.string (⟨#[]⟩ : ByteArray), .string (⟨#[]⟩ : ByteArray), .string (⟨#[]⟩ : ByteArray), .string (⟨#[]⟩ : ByteArray), .string (⟨#[]⟩ : ByteArray), .string (⟨#[]⟩ : ByteArray), .string (⟨#[]⟩ : ByteArray), .string (⟨#[]⟩ : ByteArray), .string (⟨#[]⟩ : ByteArray), .string (⟨#[]⟩ : ByteArray), .string (⟨#[]⟩ : ByteArray)]) (vs := #[.string (⟨#[]⟩ : ByteArray), .string (⟨#[101, 118, 101, 110, 116]⟩ : ByteArray), .string (⟨#[118, 97, 114]⟩ : ByteArray), .string (⟨#[114, 97, 110, 103, 101]⟩ : ByteArray), .string (⟨#[110, 97, 109, 101]⟩ : ByteArray), .string (⟨#[107, 105, 100, 115]⟩ : ByteArray), .string (⟨#[111, 110]⟩ : ByteArray), .string (⟨#[116, 97, 114, 103, 101, 116]⟩ : ByteArray), .string (⟨#[103, 117, 97, 114, 100]⟩ : ByteArray), .string (⟨#[97, 99, 116, 115]⟩ : ByteArray), .string (⟨#[101, 100, 103, 101]⟩ : ByteArray)]) (t := 117) (.tmp 4) ?hr rfl (fun _ => rfl) (fun _ => rfl) (by kernel_rfl) rfl (by simp [Value.oneCell']) ?_; (case hr => first | (go_simp; done) | (go_simp; rfl)); intro gb hg w3 hbox hb; have HB := Aside0.mk hb; have HBX := Aside0.mk hbox; clear hbox hb hg))
    go_ret
    exact ⟨by rw [← HR.out, HE.out]; rfl, HB.out⟩
  have d2 : decide (11 ≤ a0) = false := decide_eq_false c2
  obtain ⟨n, rfl⟩ : ∃ n : Nat, a0 = n := ⟨a0.toNat, by omega⟩
  have HN := Aside0.mk (show n < 11 by omega)
  have d3 : ((n : Int) < 11) = True := eq_true (by omega)
  clear c1 c2
  go_enter Try.func36, Try.ntmps36
  go_wp2_with (first | ((with_reducible refine gate_dst (N := 3) rfl ?_); refine box_store rfl rfl (N := 3) rfl rfl (cs := #[.string (⟨#[]⟩ : ByteArray), .string (⟨#[]⟩ : ByteArray), .string (⟨#[]⟩ : ByteArray), .string (⟨#[]⟩ : ByteArray), .string (⟨#[]⟩ : ByteArray), .string (⟨#[]⟩ : ByteArray), .string (⟨#[]⟩ : ByteArray), .string (⟨#[]⟩ : ByteArray), .string (⟨#[]⟩ : ByteArray), .string (⟨#[]⟩ : ByteArray), .string (⟨#[]⟩ : ByteArray)]) (vs := #[.string (⟨#[]⟩ : ByteArray), .string (⟨#[101, 118, 101, 110, 116]⟩ : ByteArray), .string (⟨#[118, 97, 114]⟩ : ByteArray), .string (⟨#[114, 97, 110, 103, 101]⟩ : ByteArray), .string (⟨#[110, 97, 109, 101]⟩ : ByteArray), .string (⟨#[107, 105, 100, 115]⟩ : ByteArray), .string (⟨#[111, 110]⟩ : ByteArray), .string (⟨#[116, 97, 114, 103, 101, 116]⟩ : ByteArray), .string (⟨#[103, 117, 97, 114, 100]⟩ : ByteArray), .string (⟨#[97, 99, 116, 115]⟩ : ByteArray), .string (⟨#[101, 100, 103, 101]⟩ : ByteArray)]) (t := 117) (.tmp 4) ?hr rfl (fun _ => rfl) (fun _ => rfl) (by kernel_rfl) rfl (by simp [Value.oneCell']) ?_; (case hr => first | (go_simp; done) | (go_simp; rfl)); intro gb hg w3 hbox hb; have HB := Aside0.mk hb; have HBX := Aside0.mk hbox; have hz := (blk_cell hbox n).trans (sound_Word.cell n HN.out); clear hbox hb hg))
  go_ret
  exact ⟨by rw [← HR.out]; rfl, HB.out⟩


/-! ### cmp_Or_string: function 66 -/
/-- the first text that is not empty -/
def cmp_Or_string.f : List ByteArray → Option ByteArray
  | [] => some ⟨#[]⟩
  | x :: l => if x.toList = ([] : List UInt8) then cmp_Or_string.f l else some x
set_option maxHeartbeats 4000000 in
set_option maxRecDepth 100000 in
theorem cmp_Or_string.calls (A0 : Option Addr) (c0 : Nat) (l0 : List ByteArray) (r : ByteArray) (w : World) (hr0 : Kd.C Kd.string w A0 l0.length l0) (hc0 : l0.length ≤ c0) (h : cmp_Or_string.f l0 = some r) : Calls Try.prog 66 #[.slice A0 l0.length c0] w fun e w' => e = .returned (.string r) ∧ Below w.heap.size w w' := by
  have HL := Aside0.mk (show l0.length ≤ 9223372036854775807 from hr0.2.1)
  have HR := Aside0.mk hr0
  have HF := Aside0.mk (show cmp_Or_string.f (l0.drop 0) = some r by rw [List.drop_zero]; exact h)
  have HB := Aside0.mk (Below.refl w.heap.size w)
  clear hr0 h hc0
  go_enter Try.func66, Try.ntmps66
  go_wp2_with fail
  go_loopg [8] l0.length (fun kq v8 wr => ∃ n : Nat, v8 = .int .i64 (n : Int) ∧ Aside0 (n + kq = l0.length) ∧ Aside0 (cmp_Or_string.f (l0.drop n) = some r) ∧ Aside0 (Below w.heap.size w wr))
  case atStart => exact ⟨0, rfl, ⟨Nat.zero_add _⟩, HF, HB⟩
  case round =>
    clear HF HB
    obtain ⟨n, rfl, HN, HF, HB⟩ := hrel
    by_cases hn : n < l0.length
    · have c1 : decide ((n : Int) < (l0.length : Int)) = true := decide_eq_true (by omega)
      have c2 : wrap64 ((n : Int) + 1) = ((n + 1 : Nat) : Int) := by have := HL.out; unfold wrap64; omega
      obtain ⟨ad, e1, hx⟩ := Kd.at_string (Kd.C_below HR.out HB.out) (n : Int) (by omega) (by omega)
      subst e1
      rw [Int.toNat_natCast] at hx
      have hg : rdOf ByteArray.empty l0 (n : Int) = l0[n] := by simp [rdOf, hn]
      have hd := HF.out
      rw [List.drop_eq_getElem_cons hn, cmp_Or_string.f, ← hg] at hd
      have d1 : ((n : Int) < (l0.length : Int)) = True := eq_true (by omega)
      have d0 : ((0 : Int) ≤ (n : Int)) = True := eq_true (by omega)
      have HH := Aside0.mk hn
      clear hg hn
      generalize rdOf ByteArray.empty l0 (n : Int) = x at hx hd
      by_cases hx0 : x.toList = ([] : List UInt8)
      · rw [if_pos hx0] at hd
        have c3 : x.toList.isEmpty = true := by rw [hx0]; rfl
        have HD := Aside0.mk hd
        clear hd hx0
        go_wp2_with fail
        go_roundg (l0.length - (n + 1))
        case measure => have := HN.out; have := HH.out; omega
        case rel => exact ⟨n + 1, rl_, ⟨kn_ HH⟩, HD, HB⟩
      · rw [if_neg hx0] at hd
        have c3 : x.toList.isEmpty = false := by cases h : x.toList with | nil => exact absurd h hx0 | cons _ _ => rfl
        obtain rfl := Option.some.inj hd
        clear hd hx0
        go_wp2_with fail
        go_ret
        exact ⟨rfl, HB.out⟩
    · have c1 : decide ((n : Int) < (l0.length : Int)) = false := decide_eq_false (by omega)
      have c2 : decide (n < l0.length) = false := decide_eq_false hn
      have hd := HF.out
      rw [List.drop_of_length_le (by omega), cmp_Or_string.f] at hd
      obtain rfl := Option.some.inj hd
      clear hd hn
      go_wp2
      go_ret
      exact ⟨rfl, HB.out⟩


/-! ### val_digits: function 96 -/
/-- a number's digits; so many at most -/
def val_digits.dg : Nat → Nat → List UInt8
  | 0, _ => []
  | f + 1, n => (if n < 10 then [] else val_digits.dg f (n / 10)) ++ [UInt8.ofNat (48 + n % 10)]
def val_digits.f (a0 : Int) : Option ByteArray := if 0 ≤ a0 ∧ a0 < 18446744073709551616 then some ⟨(val_digits.dg 20 a0.toNat).toArray⟩ else none
theorem val_digits.last {q m : Nat} {S : List UInt8} (hq : 1 ≤ q) (hm : m < 10) : val_digits.dg q m ++ S = UInt8.ofNat (48 + m % 10) :: S := by
  obtain ⟨q, rfl⟩ : ∃ p, q = p + 1 := ⟨q - 1, by omega⟩
  rw [val_digits.dg, if_pos hm]; rfl
theorem val_digits.more {q m : Nat} {S : List UInt8} (hq : 1 ≤ q) (hm : ¬ m < 10) : val_digits.dg q m ++ S = val_digits.dg (q - 1) (m / 10) ++ UInt8.ofNat (48 + m % 10) :: S := by
  obtain ⟨q, rfl⟩ : ∃ p, q = p + 1 := ⟨q - 1, by omega⟩
  rw [val_digits.dg, if_neg hm, List.append_assoc]; rfl
/-- the cells from a place on hold these bytes -/
def val_digits.held (C : Array Value) (p : Nat) (S : List UInt8) : Prop := C.size = 20 ∧ p + S.length = 20 ∧ ∀ i (h : i < S.length), C[p + i]? = some (.int .u8 (S[i].toNat : Int))
theorem val_digits.put {C : Array Value} {p : Nat} {S : List UInt8} (h : val_digits.held C (p + 1) S) (b : UInt8) : val_digits.held (C.setIfInBounds p (.int .u8 (b.toNat : Int))) p (b :: S) := by
  obtain ⟨h1, h2, h3⟩ := h
  refine ⟨by simpa using h1, by simp; omega, fun i hi => ?_⟩
  cases i with
  | zero => simp [h1, show p < 20 by omega]
  | succ i =>
    have := h3 i (by simpa using hi)
    rw [Array.getElem?_setIfInBounds, if_neg (by omega), show p + (i + 1) = p + 1 + i by omega, this]
    rfl
set_option maxHeartbeats 8000000 in
set_option maxRecDepth 100000 in
theorem val_digits.calls (a0 : Int) (r : ByteArray) (w : World) (h : val_digits.f a0 = some r) : Calls Try.prog 96 #[.int .u64 a0] w fun e w' => e = .returned (.string r) ∧ Below w.heap.size w w' := by
  unfold val_digits.f at h
  split at h
  case isFalse => cases h
  case isTrue hg =>
  obtain ⟨n, rfl⟩ : ∃ n : Nat, a0 = n := ⟨a0.toNat, by omega⟩
  have HR := Aside0.mk (Option.some.inj h)
  have HN := Aside0.mk (show n < 18446744073709551616 by omega)
  rw [Int.toNat_natCast] at HR
  clear h hg
  go_enter Try.func96, Try.ntmps96
  go_wp2_with (first | ((with_reducible refine gate_dst (N := 3) rfl ?_); refine box_event ?hg (N := 3) ?hd (cs := #[.int .u8 0, .int .u8 0, .int .u8 0, .int .u8 0, .int .u8 0, .int .u8 0, .int .u8 0, .int .u8 0, .int .u8 0, .int .u8 0, .int .u8 0, .int .u8 0, .int .u8 0, .int .u8 0, .int .u8 0, .int .u8 0, .int .u8 0, .int .u8 0, .int .u8 0, .int .u8 0]) (t := 160) ?hr ?_; (case hd => rfl); (case hg => rfl); (case hr => first | (go_simp; done) | (go_simp; rfl)); intro gb hg w3 hbox hb; have HB := Aside0.mk hb; have HBX := Aside0.mk hbox; have HG := Aside0.mk hg; clear hbox hb hg))
  obtain ⟨R, hR⟩ : ∃ R, val_digits.dg 20 n = R := ⟨_, rfl⟩
  rw [hR] at HR
  have HDG := Aside0.mk hR
  clear hR
  have H0 := Aside0.mk (show val_digits.held #[.int .u8 0, .int .u8 0, .int .u8 0, .int .u8 0, .int .u8 0, .int .u8 0, .int .u8 0, .int .u8 0, .int .u8 0, .int .u8 0, .int .u8 0, .int .u8 0, .int .u8 0, .int .u8 0, .int .u8 0, .int .u8 0, .int .u8 0, .int .u8 0, .int .u8 0, .int .u8 0] 20 [] from ⟨rfl, rfl, fun i h => absurd h (by simp)⟩)
  generalize #[(Value.int .u8 0), .int .u8 0, .int .u8 0, .int .u8 0, .int .u8 0, .int .u8 0, .int .u8 0, .int .u8 0, .int .u8 0, .int .u8 0, .int .u8 0, .int .u8 0, .int .u8 0, .int .u8 0, .int .u8 0, .int .u8 0, .int .u8 0, .int .u8 0, .int .u8 0, .int .u8 0] = C0 at HBX H0
  go_loopg [0, 4] 20 (fun kq v0 v4 wr => ∃ (m : Nat) (S : List UInt8) (C : Array Value), v0 = .int .u64 (m : Int) ∧ v4 = .int .i64 (kq : Int) ∧ Aside0 (m < 18446744073709551616 ∧ 1 ≤ kq ∧ kq ≤ 20 ∧ m < 10 ^ kq) ∧ Aside0 (val_digits.dg kq m ++ S = R) ∧ Aside0 (val_digits.held C kq S) ∧ Aside0 (wr.heap[gb]? = some (.cells C 160 (0, 0))) ∧ Aside0 (Below w.heap.size w wr))
  case atStart => exact ⟨n, [], C0, rfl, rfl, ⟨HN.out, by omega, Nat.le_refl _, Nat.lt_of_lt_of_le HN.out (by decide)⟩, ⟨by rw [List.append_nil]; exact HDG.out⟩, H0, HBX, HB⟩
  case round =>
    clear HDG HN H0 HBX HB
    obtain ⟨m, S, C, rfl, rfl, HM, HD, HH, HBX, HB⟩ := hrel
    have c1 : wrap64 ((gk : Int) - 1) = ((gk - 1 : Nat) : Int) := by have := HM.out; unfold wrap64; omega
    have c2 : (((gk - 1 : Nat) : Int) < 20) = True := eq_true (by have := HM.out; omega)
    have c3 : IntKind.u64.wrap ((m : Int) / 10) = ((m / 10 : Nat) : Int) := by
      have := HM.out.1
      rw [IntKind.wrap_u64]; omega
    obtain ⟨v, hv⟩ : ∃ v, C[gk - 1]? = some v := ⟨_, Array.getElem?_eq_getElem (by have := HM.out; have := HH.out.1; omega)⟩
    have hz := (blk_cell HBX.out (gk - 1)).trans hv
    have hy := blk_frozen HBX.out (gk - 1)
    clear hv
    have ks : ∀ W : World, (Instr.sliceAt 160 (.pointer (some ⟨gb, 0, none⟩)) (some (.int .i64 ((gk - 1 : Nat) : Int))) none none).run Try.prog W = .ok (.slice (some ⟨gb, gk - 1, none⟩) (20 - (gk - 1)) (20 - (gk - 1))) W := fun W => by
      have h1 := HM.out
      have hL : Try.prog.arrayLen 160 = 20 := by kernel_rfl
      rw [run_sliceAt_array_l W 160 _ (by kernel_rfl) .i64 _ (by omega) (by rw [hL]; omega), hL]
      go_simp
      intro h2; omega
    obtain ⟨b, hb⟩ : ∃ b : UInt8, UInt8.ofNat (48 + m % 10) = b := ⟨_, rfl⟩
    have hbv : (48 : Int) + (m : Int) % 10 = (b.toNat : Int) := by
      have h1 : b.toNat = (48 + m % 10) % 256 := by rw [← hb]; simp
      omega
    have HP := Aside0.mk (val_digits.put (p := gk - 1) (by rw [show gk - 1 + 1 = gk by have := HM.out; omega]; exact HH.out) b)
    by_cases hm : m < 10
    · have c4 : (((m / 10 : Nat) : Int) == 0) = true := beq_iff_eq.2 (by omega)
      have c5 : ((m : Int) / 10 == 0) = true := beq_iff_eq.2 (by omega)
      have HDD := Aside0.mk (show b :: S = R by rw [← hb, ← val_digits.last (q := gk) (by have := HM.out; omega) hm]; exact HD.out)
      clear hm hb
      have kc : (convert 79 9 (.slice (some ⟨gb, gk - 1, none⟩) (20 - (gk - 1)) (20 - (gk - 1)))).run Try.prog (wr.setCell ⟨gb, gk - 1, none⟩ (.int .u8 (b.toNat : Int))) = .ok (.string ⟨(b :: S).toArray⟩) (wr.setCell ⟨gb, gk - 1, none⟩ (.int .u8 (b.toNat : Int))) := by
        have hsz : (⟨(b :: S).toArray⟩ : ByteArray).size = 20 - (gk - 1) := by
          show (b :: S).toArray.size = _
          have := HP.out.2.1
          simp only [List.size_toArray]
          omega
        have h := Go.Lib.run_convert_whole (P := Try.prog) (wr.setCell ⟨gb, gk - 1, none⟩ (.int .u8 (b.toNat : Int))) 79 5 9 Try.underlying79 Try.underlying5 Try.underlying9 gb (gk - 1) ⟨(b :: S).toArray⟩ (fun i hi => by
          rw [blk_cell (blk_put HBX.out _ _ rfl) (gk - 1 + i)]
          exact HP.out.2.2 i hi) (20 - (gk - 1))
        rw [hsz] at h
        exact h
      go_wp2
      go_ret
      exact ⟨by rw [← HR.out, ← HDD.out]; rfl, below_set HB.out (by rw [HG.out]; exact Nat.le_refl _)⟩
    · have c4 : (((m / 10 : Nat) : Int) == 0) = false := beq_eq_false_iff_ne.2 (by omega)
      have c5 : ((m : Int) / 10 == 0) = false := beq_eq_false_iff_ne.2 (by omega)
      have HDD := Aside0.mk (show val_digits.dg (gk - 1) (m / 10) ++ b :: S = R by rw [← hb, ← val_digits.more (q := gk) (by have := HM.out; omega) hm]; exact HD.out)
      have HQ := Aside0.mk (show 2 ≤ gk ∧ m / 10 < 10 ^ (gk - 1) by
        have h1 := HM.out
        have h2 : gk ≠ 1 := fun e => hm (by rw [e] at h1; omega)
        have h3 := h1.2.2.2
        rw [show 10 ^ gk = 10 ^ (gk - 1) * 10 by rw [← Nat.pow_succ]; congr 1; omega] at h3
        omega)
      clear hm hb
      go_wp2_with fail
      go_roundg (gk - 1)
      case measure => have := HM.out; omega
      case rel => exact ⟨m / 10, b :: S, _, rl_, rl_, ⟨by have := HM.out; have := HQ.out; omega⟩, HDD, HP, ⟨blk_put HBX.out _ _ rfl⟩, ⟨below_set HB.out (by rw [HG.out]; exact Nat.le_refl _)⟩⟩


/-! ### val_Put: function 67 -/
def val_Put.f (a0 : Int) : Option (ByteArray) := if a0 < 0 then ((val_digits.f (IntKind.u64.wrap (-(IntKind.u64.wrap (a0))))).bind fun t101 => (if 1 + t101.size ≤ 9223372036854775807 then (some ((⟨#[45]⟩ : ByteArray) ++ t101)) else (none))) else ((val_digits.f (IntKind.u64.wrap (a0))).bind fun t102 => (some t102))
set_option maxHeartbeats 8000000 in
set_option maxRecDepth 100000 in
theorem val_Put.calls (a0 : Int) (r : ByteArray) (w : World) (h : val_Put.f a0 = some r) :
  Calls Try.prog 67 #[.int .i64 a0] w fun e w' => e = .returned (.string r) ∧ Below w.heap.size w w' := by
 have HB := Aside0.mk (Below.refl w.heap.size w)
 unfold val_Put.f at h
 have H := h
 clear h
 replace H := it_ H; obtain ⟨c2b0, H⟩ | ⟨c2b0, H⟩ := H
 ·replace H := bi_ H; obtain ⟨t102, A6, H⟩ := H
  obtain rfl := Option.some.inj H
  go_enter Try.func67, Try.ntmps67
  go_wp2_with (first | ((with_reducible refine gate_callee (f := 96) rfl ?_); refine gl_ (some 12) Try.func96 #[.int .u64 (IntKind.u64.wrap (a0))] ?_; (with_reducible refine cm_ (val_digits.calls (IntKind.u64.wrap (a0)) t102 _ A6.out) ?_); intro w7 hb; refine ⟨_, rfl, ?_⟩; replace HB := ts_ HB hb; clear hb))
  go_ret
  exact ⟨rv_, bw_⟩

 replace H := bi_ H; obtain ⟨t101, A3, H⟩ := H
 replace H := ip_ H; obtain ⟨c4, H⟩ := H
 have c4b0 := eq_true c4
 have c4b1 : decide (1 + t101.size ≤ 9223372036854775807) = true := decide_eq_true c4
 try have c4b2 : (9223372036854775807 < 1 + t101.size) = False := eq_false (Nat.not_lt.2 c4)
 obtain rfl := Option.some.inj H
 go_enter Try.func67, Try.ntmps67
 go_wp2_with (first | ((with_reducible refine gate_callee (f := 96) rfl ?_); refine gl_ (some 8) Try.func96 #[.int .u64 (IntKind.u64.wrap (-(IntKind.u64.wrap (a0))))] ?_; (with_reducible refine cm_ (val_digits.calls (IntKind.u64.wrap (-(IntKind.u64.wrap (a0)))) t101 _ A3.out) ?_); intro w5 hb; refine ⟨_, rfl, ?_⟩; replace HB := ts_ HB hb; clear hb))
 go_ret
 exact ⟨rv_, bw_⟩
/-! ### sound_Lines: function 35 -/
def sound_Lines.l0 : Nat → List ByteArray → List (S64) → Int → Int → Option (List ByteArray)
  | 0, _, _, _, _ => none
  | k + 1, x3, x6, x7, x8 => if x8 < x7 then (if 0 ≤ x8 then (if x8 < (x6.length : Int) then ((sound_Word.f ((rd_T64 x6 x8).f0)).bind fun t105 => ((cmp_Or_string.f (([t105, (⟨#[63]⟩ : ByteArray)] : List ByteArray))).bind fun t109 => (if t109.size + 1 ≤ 9223372036854775807 then ((val_Put.f ((rd_T64 x6 x8).f1)).bind fun t110 => (if (t109 ++ (⟨#[32]⟩ : ByteArray)).size + t110.size ≤ 9223372036854775807 then (if ((t109 ++ (⟨#[32]⟩ : ByteArray)) ++ t110).size + 1 ≤ 9223372036854775807 then ((val_Put.f ((rd_T64 x6 x8).f2)).bind fun t111 => (if (((t109 ++ (⟨#[32]⟩ : ByteArray)) ++ t110) ++ (⟨#[32]⟩ : ByteArray)).size + t111.size ≤ 9223372036854775807 then (if x3.length < 8796093022208 then (sound_Lines.l0 k (x3 ++ [(((t109 ++ (⟨#[32]⟩ : ByteArray)) ++ t110) ++ (⟨#[32]⟩ : ByteArray)) ++ t111]) x6 x7 (wrap64 (x8 + 1))) else (none)) else (none))) else (none)) else (none))) else (none)))) else (none)) else (none)) else (some x3)
def sound_Lines.f (k : Nat) (l0 : List (S64)) : Option (List ByteArray) := sound_Lines.l0 k ([] : List ByteArray) l0 (l0.length : Int) 0
theorem sound_Lines.mono_l : ∀ k, (∀ y0 y1 y2 y3, LeO (sound_Lines.l0 k y0 y1 y2 y3) (sound_Lines.l0 (k + 1) y0 y1 y2 y3))
  | 0 => fun _ _ _ _ r h => by simp [sound_Lines.l0] at h
  | k + 1 => by
    have ih0 := sound_Lines.mono_l k
    · intro y0 y1 y2 y3
      unfold sound_Lines.l0
      exact mo_
theorem sound_Lines.mono : ∀ a0 k, LeO (sound_Lines.f k a0) (sound_Lines.f (k + 1) a0) := by
  intro a0 k
  have ih0 := sound_Lines.mono_l k
  unfold sound_Lines.f
  exact mo_
instance sound_Lines.lc : ∀ a0 k, LeC (sound_Lines.f k a0) (sound_Lines.f (k + 1) a0) := fun a0 k => ⟨sound_Lines.mono a0 k⟩
def sound_Lines.T5 : Bool × List (List Nat × List Nat) := (true, [([], []), ([], []), ([1], [1]), ([2], [2]), ([3], [3]), ([4, 3], [4]), ([5], [5]), ([], []), ([7], [7]), ([8, 5], [8]), ([6, 9], [6, 9]), ([10], [10]), ([], []), ([12], [12]), ([13, 9], [13]), ([11, 14], [11, 14]), ([15], [15]), ([0, 16, 14], [0, 16]), ([17, 17, 0, 1, 2, 3, 4, 5, 6, 7, 8, 9, 10, 11, 12, 13, 14, 15, 16, 17], [0, 17])])
def sound_Lines.B5 : List Nat := [0, 0, 2, 6, 14, 30, 62, 0, 128, 446, 1022, 2046, 0, 4096, 13246, 32766, 65534, 131071, 262143]
theorem sound_Lines.tab5 : rtab .any (opsOf Try.f35 5) = sound_Lines.T5 := by kernel_rfl
theorem sound_Lines.bits5 : waitsOk sound_Lines.T5.2 sound_Lines.B5 = true := by kernel_rfl
abbrev bw1_0 : Array Bool := #[false, false, false, false, false, false, false, false, false, false, false, false, false, false, false, false, false, false, false]
abbrev bw1_1 : Array Bool := #[true, false, false, false, false, false, false, false, false, false, false, false, false, false, false, false, false, false, false]
abbrev bw1_2 : Array Bool := #[true, true, false, false, false, false, false, false, false, false, false, false, false, false, false, false, false, false, false]
abbrev bw1_3 : Array Bool := #[true, true, false, false, false, false, false, true, false, false, false, false, false, false, false, false, false, false, false]
abbrev bw1_4 : Array Bool := #[true, true, false, false, false, false, false, true, false, false, false, false, true, false, false, false, false, false, false]
abbrev bw1_5 : Array Bool := #[true, true, true, false, false, false, false, true, false, false, false, false, true, false, false, false, false, false, false]
abbrev bw1_6 : Array Bool := #[true, true, true, false, false, false, false, true, true, false, false, false, true, false, false, false, false, false, false]
abbrev bw1_7 : Array Bool := #[true, true, true, false, false, false, false, true, true, false, false, false, true, true, false, false, false, false, false]
abbrev bw1_8 : Array Bool := #[true, true, true, true, false, false, false, true, true, false, false, false, true, true, false, false, false, false, false]
abbrev bw1_9 : Array Bool := #[true, true, true, true, true, false, false, true, true, false, false, false, true, true, false, false, false, false, false]
abbrev bw1_10 : Array Bool := #[true, true, true, true, true, true, false, true, true, false, false, false, true, true, false, false, false, false, false]
abbrev bw1_11 : Array Bool := #[true, true, true, true, true, true, true, true, true, false, false, false, true, true, false, false, false, false, false]
abbrev bw1_12 : Array Bool := #[true, true, true, true, true, true, true, true, true, true, false, false, true, true, false, false, false, false, false]
abbrev bw1_13 : Array Bool := #[true, true, true, true, true, true, true, true, true, true, true, false, true, true, false, false, false, false, false]
abbrev bw1_14 : Array Bool := #[true, true, true, true, true, true, true, true, true, true, true, true, true, true, false, false, false, false, false]
abbrev bw1_15 : Array Bool := #[true, true, true, true, true, true, true, true, true, true, true, true, true, true, true, false, false, false, false]
abbrev bw1_16 : Array Bool := #[true, true, true, true, true, true, true, true, true, true, true, true, true, true, true, true, false, false, false]
abbrev bw1_17 : Array Bool := #[true, true, true, true, true, true, true, true, true, true, true, true, true, true, true, true, true, false, false]
abbrev bw1_18 : Array Bool := #[true, true, true, true, true, true, true, true, true, true, true, true, true, true, true, true, true, true, false]
abbrev bw1_19 : Array Bool := #[true, true, true, true, true, true, true, true, true, true, true, true, true, true, true, true, true, true, true]
set_option maxHeartbeats 8000000 in
set_option maxRecDepth 100000 in
theorem sound_Lines.calls (k : Nat) (A0 : Option Addr) (c0 : Nat) (l0 : List (S64)) (r : List ByteArray) (w : World) (hr0 : Kd.C k64 w A0 l0.length l0) (hc0 : l0.length ≤ c0) (h : sound_Lines.f k l0 = some r) :
  Calls Try.prog 35 #[.slice A0 l0.length c0] w fun e w' => ∃ v0_ : Value, e = .returned (v0_) ∧ Kd.R Kd.string 9 w' w.heap.size (fun _ => True) v0_ r ∧ Below w.heap.size w w' := by
 have hu64 := Try.underlying64
 have HR0 := Aside0.mk hr0
 have HC0 := Aside0.mk hc0
 clear hr0 hc0
 have HB := Aside0.mk (Below.refl w.heap.size w)
 unfold sound_Lines.f at h
 have H := h
 clear h
 have H' := Aside0.mk H
 clear H
 go_enter Try.func35, Try.ntmps35
 go_wp2
 go_loopg [3, 8] k (fun kq v3 v8 w' => ∃ (x3_1 : List ByteArray) (x8_1 : Int), v8 = .int .i64 x8_1 ∧ Aside0 (sound_Lines.l0 kq x3_1 l0 (l0.length : Int) x8_1 = some r) ∧ Aside0 (kq ≤ k) ∧ Aside0 (Kd.R Kd.string 9 w' w.heap.size (fun _ => True) v3 x3_1) ∧ Aside0 (Below w.heap.size w w'))
 case atStart => exact ⟨(([] : List ByteArray)), (0), rl_, H', ⟨Nat.le_refl _⟩, ⟨by first | exact Kd.R_nil _ _ _ _ _ | exact Kd.N_nil _ _ _ _ _ | exact Kd.V_nil _ _ _ _ _ | exact Kd.Q_nil _ _ _ _ _ | exact Kd.S_nil _ _ _ _ _⟩, ⟨bw_⟩⟩
 case round =>
  clear H'
  obtain ⟨x3_1, x8_1, rfl, HA, HK1, HO_3, HB⟩ := hrel
  cases gk with
  | zero => exact absurd HA.out (by simp [sound_Lines.l0])
  | succ k1 =>
   have H := HA.out
   clear HA
   simp only [sound_Lines.l0] at H
   replace H := it_ H; obtain ⟨c2b0, H⟩ | ⟨c2b0, H⟩ := H
   ·obtain rfl := Option.some.inj H
    go_wp2
    go_ret
    exact ⟨_, rv_, by (with_reducible repeat (first | apply Kd.R_alloc | apply Kd.R_drewN | apply Kd.R_drew)); exact HO_3.out, by repeat (first | (with_reducible first | exact HB.out | apply below_alloc | apply pw_below_drewN | apply below_drew1) | exact HB.out)⟩

   replace H := is_ H; obtain ⟨c3b0, H⟩ := H
   replace H := is_ H; obtain ⟨c4b0, H⟩ := H
   replace H := bi_ H; obtain ⟨t105, A5, H⟩ := H
   obtain ⟨y106, hy106⟩ : ∃ y_ : List ByteArray, y_ = (([t105, (⟨#[63]⟩ : ByteArray)] : List ByteArray)) := ⟨_, rfl⟩
   replace H : ((cmp_Or_string.f y106).bind fun t109 => (if t109.size + 1 ≤ 9223372036854775807 then ((val_Put.f ((rd_T64 l0 x8_1).f1)).bind fun t110 => (if (t109 ++ (⟨#[32]⟩ : ByteArray)).size + t110.size ≤ 9223372036854775807 then (if ((t109 ++ (⟨#[32]⟩ : ByteArray)) ++ t110).size + 1 ≤ 9223372036854775807 then ((val_Put.f ((rd_T64 l0 x8_1).f2)).bind fun t111 => (if (((t109 ++ (⟨#[32]⟩ : ByteArray)) ++ t110) ++ (⟨#[32]⟩ : ByteArray)).size + t111.size ≤ 9223372036854775807 then (if x3_1.length < 8796093022208 then (sound_Lines.l0 k1 (x3_1 ++ [(((t109 ++ (⟨#[32]⟩ : ByteArray)) ++ t110) ++ (⟨#[32]⟩ : ByteArray)) ++ t111]) l0 (l0.length : Int) (wrap64 (x8_1 + 1))) else (none)) else (none))) else (none)) else (none))) else (none))) = some r := by first | (rw [hy106]; with_reducible exact H) | (have H2_ := (Option.bind_some _ _).symm.trans H; rw [hy106]; with_reducible exact H2_) | (have H2_ := (Option.bind_some _ _).symm.trans H; with_reducible exact H2_) | with_reducible exact H | (rw [hy106]; exact H) | exact H
   have Ny106 := Aside0.mk hy106
   clear hy106
   replace H := bi_ H; obtain ⟨t109, A6, H⟩ := H
   replace H := ip_ H; obtain ⟨c7, H⟩ := H
   have c7b0 := eq_true c7
   have c7b1 : decide (t109.size + 1 ≤ 9223372036854775807) = true := decide_eq_true c7
   try have c7b2 : (9223372036854775807 < t109.size + 1) = False := eq_false (Nat.not_lt.2 c7)
   replace H := bi_ H; obtain ⟨t110, A8, H⟩ := H
   replace H := ip_ H; obtain ⟨c9, H⟩ := H
   have c9b0 := eq_true c9
   have c9b1 : decide ((t109 ++ (⟨#[32]⟩ : ByteArray)).size + t110.size ≤ 9223372036854775807) = true := decide_eq_true c9
   try have c9b2 : (9223372036854775807 < (t109 ++ (⟨#[32]⟩ : ByteArray)).size + t110.size) = False := eq_false (Nat.not_lt.2 c9)
   try have c9b3 : (9223372036854775807 < t109.size + 1 + t110.size) = False := by have h_ := c9b2; simp only [ByteArray.size_append] at h_; exact h_
   replace H := ip_ H; obtain ⟨c10, H⟩ := H
   have c10b0 := eq_true c10
   have c10b1 : decide (((t109 ++ (⟨#[32]⟩ : ByteArray)) ++ t110).size + 1 ≤ 9223372036854775807) = true := decide_eq_true c10
   try have c10b2 : (9223372036854775807 < ((t109 ++ (⟨#[32]⟩ : ByteArray)) ++ t110).size + 1) = False := eq_false (Nat.not_lt.2 c10)
   try have c10b3 : (9223372036854775807 < t109.size + 1 + t110.size + 1) = False := by have h_ := c10b2; simp only [ByteArray.size_append] at h_; exact h_
   replace H := bi_ H; obtain ⟨t111, A11, H⟩ := H
   replace H := ip_ H; obtain ⟨c12, H⟩ := H
   have c12b0 := eq_true c12
   have c12b1 : decide ((((t109 ++ (⟨#[32]⟩ : ByteArray)) ++ t110) ++ (⟨#[32]⟩ : ByteArray)).size + t111.size ≤ 9223372036854775807) = true := decide_eq_true c12
   try have c12b2 : (9223372036854775807 < (((t109 ++ (⟨#[32]⟩ : ByteArray)) ++ t110) ++ (⟨#[32]⟩ : ByteArray)).size + t111.size) = False := eq_false (Nat.not_lt.2 c12)
   try have c12b3 : (9223372036854775807 < t109.size + 1 + t110.size + 1 + t111.size) = False := by have h_ := c12b2; simp only [ByteArray.size_append] at h_; exact h_
   replace H := ip_ H; obtain ⟨c13, H⟩ := H
   have LMc13 := Aside0.mk c13
   clear c13
   obtain ⟨y112, hy112⟩ : ∃ y_ : List ByteArray, y_ = (x3_1 ++ [(((t109 ++ (⟨#[32]⟩ : ByteArray)) ++ t110) ++ (⟨#[32]⟩ : ByteArray)) ++ t111]) := ⟨_, rfl⟩
   replace H : (sound_Lines.l0 k1 y112 l0 (l0.length : Int) (wrap64 (x8_1 + 1))) = some r := by first | (rw [hy112]; with_reducible exact H) | (have H2_ := (Option.bind_some _ _).symm.trans H; rw [hy112]; with_reducible exact H2_) | (have H2_ := (Option.bind_some _ _).symm.trans H; with_reducible exact H2_) | with_reducible exact H | (rw [hy112]; exact H) | exact H
   have Ny112 := Aside0.mk hy112
   clear hy112
   have H' := Aside0.mk H
   clear H
   obtain ⟨ad103, e103, hx103_0, hx103_1, hx103_2, p103, q103⟩ := au_T64 HR0 HB x8_1; cases e103
   try go_wp2_with (first | ((with_reducible refine gate_dst (N := 5) rfl ?_); refine by_ HB (N := 5) (cs := #[.int .i64 0, .int .i64 0, .int .i64 0]) (t := 64) ?_; intro gb104 hg w14 hbox hb hB_; have BK104 := Aside0.mk (hbox); have GW104 := gw_ hg hB_; have GE104 := gw_ hg hB_; replace HO_3 := Aside0.mk (Kd.R_below (kR_ HO_3) hb); replace HB := Aside0.mk (below_step hB_ hb); clear hb hbox hg; obtain ⟨z15_0, z15_1, z15_2, y15_0, y15_1, y15_2⟩ := cw3_ BK104.out))
   have n0_ : Aside0 (Kd.R Kd.string 9 (((w14.setCell ⟨gb104, 0, none⟩ (.int .i64 ((rd_T64 l0 x8_1).f0))).setCell ⟨gb104, 1, none⟩ (.int .i64 ((rd_T64 l0 x8_1).f1))).setCell ⟨gb104, 2, none⟩ (.int .i64 ((rd_T64 l0 x8_1).f2))) w.heap.size (fun _ => True) u3 x3_1) := ⟨by (with_reducible repeat (first | apply Kd.R_alloc | apply Kd.R_drewN | apply Kd.R_drew)); exact Kd.R_mono (Kd.R_far (p := ⟨gb104, 2, none⟩) (Kd.R_far (p := ⟨gb104, 1, none⟩) (Kd.R_far (p := ⟨gb104, 0, none⟩) (Kd.R_types HO_3.out BK104.out (by decide)) (fun _ hk => hk.2) (.int .i64 ((rd_T64 l0 x8_1).f0))) (fun _ hk => hk.2) (.int .i64 ((rd_T64 l0 x8_1).f1))) (fun _ hk => hk.2) (.int .i64 ((rd_T64 l0 x8_1).f2))) (fun _ hk => trivial)⟩
   have n1_ : Aside0 ((((w14.setCell ⟨gb104, 0, none⟩ (.int .i64 ((rd_T64 l0 x8_1).f0))).setCell ⟨gb104, 1, none⟩ (.int .i64 ((rd_T64 l0 x8_1).f1))).setCell ⟨gb104, 2, none⟩ (.int .i64 ((rd_T64 l0 x8_1).f2))).heap[gb104]? = some (.cells #[.int .i64 ((rd_T64 l0 x8_1).f0), .int .i64 ((rd_T64 l0 x8_1).f1), .int .i64 ((rd_T64 l0 x8_1).f2)] 64 (0, 0))) := ⟨by refine grO ?_; refine blk_put (cs := #[.int .i64 ((rd_T64 l0 x8_1).f0), .int .i64 ((rd_T64 l0 x8_1).f1), .int .i64 0]) ?_ 2 _ rfl; refine grO ?_; refine blk_put (cs := #[.int .i64 ((rd_T64 l0 x8_1).f0), .int .i64 0, .int .i64 0]) ?_ 1 _ rfl; refine grO ?_; refine blk_put (cs := #[.int .i64 0, .int .i64 0, .int .i64 0]) ?_ 0 _ rfl; refine grO ?_; exact BK104.out⟩
   have n2_ : Aside0 (Below w.heap.size w (((w14.setCell ⟨gb104, 0, none⟩ (.int .i64 ((rd_T64 l0 x8_1).f0))).setCell ⟨gb104, 1, none⟩ (.int .i64 ((rd_T64 l0 x8_1).f1))).setCell ⟨gb104, 2, none⟩ (.int .i64 ((rd_T64 l0 x8_1).f2)))) := ⟨bw_⟩
   (try clear HO_3)
   (try clear BK104)
   (try clear HB)
   generalize (((w14.setCell ⟨gb104, 0, none⟩ (.int .i64 ((rd_T64 l0 x8_1).f0))).setCell ⟨gb104, 1, none⟩ (.int .i64 ((rd_T64 l0 x8_1).f1))).setCell ⟨gb104, 2, none⟩ (.int .i64 ((rd_T64 l0 x8_1).f2))) = w16 at n0_ n1_ n2_ ⊢
   have HO_3 := n0_
   have BK104 := n1_
   have HB := n2_
   clear n0_ n1_ n2_
   have n0_ := Aside0.mk (Kd.R_drew HO_3.out)
   have n1_ := Aside0.mk (blk_drew BK104.out)
   have n2_ := Aside0.mk (below_drew1 HB.out)
   clear HO_3
   clear BK104
   clear HB
   have HO_3 := n0_
   have BK104 := n1_
   have HB := n2_
   clear n0_ n1_ n2_
   refine start_ (n := 19) (S := fun w' => w'.cell? ⟨gb104, 0, none⟩ = some (.int .i64 ((rd_T64 l0 x8_1).f0)) ∧ w'.cell? ⟨gb104, 1, none⟩ = some (.int .i64 ((rd_T64 l0 x8_1).f1)) ∧ w'.cell? ⟨gb104, 2, none⟩ = some (.int .i64 ((rd_T64 l0 x8_1).f2))) (ds := []) bw1_0 (by kernel_rfl) rfl rfl ⟨(blk_cell BK104.out 0).trans rfl, (blk_cell BK104.out 1).trans rfl, (blk_cell BK104.out 2).trans rfl⟩ (fun hHeld => ?_); refine with_tabW sound_Lines.tab5 sound_Lines.bits5 (fun HT_ HW_ => ?_)
   generalize w16.drew = w17 at HO_3 BK104 HB hHeld ⊢
   refine pure_ (i := 0) (N := some 12) (v := ?_) (a' := ?_) bw1_1 rfl rfl (any_of HT_.out (by kernel_rfl)) (fun _ _ _ h => h) (Or.inl ⟨by rfl, ?_⟩) ?_ ?_
   rotate_left
   ·intro w'
    go_simp
    with_reducible rfl
   rotate_left
   ·simp only [Act.put, sb_, s0_, s1_, i64_w, i32_w]
    rfl
   refine pure_ (i := 1) (N := some 13) (v := ?_) (a' := ?_) bw1_2 rfl rfl (any_of HT_.out (by kernel_rfl)) (fun _ _ _ h => h) (Or.inl ⟨by rfl, ?_⟩) ?_ ?_
   rotate_left
   ·intro w'
    go_simp
    with_reducible rfl
   rotate_left
   ·simp only [Act.put, sb_, s0_, s1_, i64_w, i32_w]
    rfl
   refine pure_ (i := 7) (N := some 19) (v := ?_) (a' := ?_) bw1_3 rfl rfl (any_of HT_.out (by kernel_rfl)) (fun _ _ _ h => h) (Or.inl ⟨by rfl, ?_⟩) ?_ ?_
   rotate_left
   ·intro w'
    go_simp
    with_reducible rfl
   rotate_left
   ·simp only [Act.put, sb_, s0_, s1_, i64_w, i32_w]
    rfl
   refine pure_ (i := 12) (N := some 24) (v := ?_) (a' := ?_) bw1_4 rfl rfl (any_of HT_.out (by kernel_rfl)) (fun _ _ _ h => h) (Or.inl ⟨by rfl, ?_⟩) ?_ ?_
   rotate_left
   ·intro w'
    go_simp
    with_reducible rfl
   rotate_left
   ·simp only [Act.put, sb_, s0_, s1_, i64_w, i32_w]
    rfl
   refine take_ (i := 2) (N := some 14) (v := ?_) (a' := ?_) bw1_5 rfl rfl (take_ofW HT_.out HW_.out (by kernel_rfl)) (fun _ _ _ h => h) (Or.inl ⟨by rfl, ?_⟩) hHeld ?_ ?_
   rotate_left
   ·rintro w' ⟨s0, s1, s2⟩
    go_simp
    with_reducible rfl
   rotate_left
   ·simp only [Act.put, sb_, s0_, s1_, i64_w, i32_w]
    rfl
   refine take_ (i := 8) (N := some 20) (v := ?_) (a' := ?_) bw1_6 rfl rfl (take_ofW HT_.out HW_.out (by kernel_rfl)) (fun _ _ _ h => h) (Or.inl ⟨by rfl, ?_⟩) hHeld ?_ ?_
   rotate_left
   ·rintro w' ⟨s0, s1, s2⟩
    go_simp
    with_reducible rfl
   rotate_left
   ·simp only [Act.put, sb_, s0_, s1_, i64_w, i32_w]
    rfl
   refine take_ (i := 13) (N := some 25) (v := ?_) (a' := ?_) bw1_7 rfl rfl (take_ofW HT_.out HW_.out (by kernel_rfl)) (fun _ _ _ h => h) (Or.inl ⟨by rfl, ?_⟩) hHeld ?_ ?_
   rotate_left
   ·rintro w' ⟨s0, s1, s2⟩
    go_simp
    with_reducible rfl
   rotate_left
   ·simp only [Act.put, sb_, s0_, s1_, i64_w, i32_w]
    rfl
   refine one_ (i := 3) (N := some 15) bw1_8 rfl rfl (one_of HT_.out (by kernel_rfl)) (by decide) (fun K hK => ?_)
   refine goes_ Try.func36 (by kernel_rfl) rfl #[.int .i64 ((rd_T64 l0 x8_1).f0)] (by rfl) rfl rfl (by (try simp only [List.map_toArray, List.map_cons, List.map_nil]); first | done | rfl | (simp only [List.length_drop, List.length_take]; rfl)) ?_
   with_reducible refine (sound_Word.calls ((rd_T64 l0 x8_1).f0) t105 _ A5.out).mono ?_
   rintro e w18 ⟨rfl, hb⟩
   refine ⟨_, rfl, ?_⟩
   have n0_ := Aside0.mk (Kd.R_below (kR_ HO_3) hb)
   have n1_ := Aside0.mk (blk_below (grw BK104.out) hb)
   have n2_ := Aside0.mk (below_step bw_ hb)
   clear HO_3
   clear BK104
   clear HB
   have HO_3 := n0_
   have BK104 := n1_
   have HB := n2_
   clear n0_ n1_ n2_
   (try clear hb)
   (try clear hb2)
   (try clear hk)
   (try clear hi)
   refine hK.out _ _ ⟨(blk_cell BK104.out 0).trans rfl, (blk_cell BK104.out 1).trans rfl, (blk_cell BK104.out 2).trans rfl⟩ (fun hHeld => ?_)
   clear hK K
   refine norm_ (a' := ?_) ?_ ?_
   rotate_left
   ·show Act.put _ (some 15) _ = _
    simp only [Act.put, sb_, s0_, s1_, i64_w, i32_w]
    rfl
   refine one_ (i := 4) (N := some 16) bw1_9 rfl rfl (one_of HT_.out (by kernel_rfl)) (by decide) (fun K hK => ?_)
   refine Kd.R_lit_step Kd.string _ 9 ?hg (N := 16) ?hd (xs := ([t105, (⟨#[63]⟩ : ByteArray)] : List ByteArray)) (inner := [.string t105, .string (⟨#[63]⟩ : ByteArray)]) (ok := fun _ => True) (okp := fun _ => True) ?hr ?hp (fun _ hk => hk) trivial (Below.refl _ _) (Nat.le_refl _) (by simp) ?_; (case hd => rfl); (case hg => rfl); (case hr => first | (go_simp; done) | (go_simp; rfl)); (case hp => exact (Reps.one (show Kd.M Kd.string _ _ _ t105 [.string t105] from rfl) (Reps.one (show Kd.M Kd.string _ _ _ (⟨#[63]⟩ : ByteArray) [.string (⟨#[63]⟩ : ByteArray)] from rfl) (Reps.none _ _))))
   intro v107 w19 ho20 hb hg_ hnew_
   clear hg_ hnew_
   (first | rw [← Ny106.out] at ho20 | (simp only [Int.reduceToNat] at ho20; rw [← Ny106.out] at ho20))
   have n0_ := Aside0.mk (Kd.R_elder' (kR_ HO_3) (Kd.R_base ho20) hb)
   have n1_ := Aside0.mk (Kd.R_lower (Kd.R_new' ho20 (Kd.R_lt (kR_ HO_3))) (below_size bw_))
   have n2_ := Aside0.mk (blk_below (grw BK104.out) hb)
   have n3_ := Aside0.mk (below_step bw_ hb)
   clear HO_3
   clear BK104
   clear HB
   have HO_3 := n0_
   have HO108 := n1_
   have BK104 := n2_
   have HB := n3_
   clear n0_ n1_ n2_ n3_
   clear hb ho20
   obtain ⟨Ao21, co21, eo21⟩ := Kd.R_slice HO108.out
   (first | subst eo21 | (injection eo21 with f1_ f2_ f3_; have f4_ := f1_.symm; have f5_ := f3_.symm; clear f1_ f2_ f3_; subst f4_; subst f5_))
   refine hK.out _ _ ⟨(blk_cell BK104.out 0).trans rfl, (blk_cell BK104.out 1).trans rfl, (blk_cell BK104.out 2).trans rfl⟩ (fun hHeld => ?_)
   clear hK K
   refine norm_ (a' := ?_) ?_ ?_
   rotate_left
   ·show Act.put _ (some 16) _ = _
    simp only [Act.put, sb_, s0_, s1_, i64_w, i32_w]
    rfl
   refine one_ (i := 5) (N := some 17) bw1_10 rfl rfl (one_of HT_.out (by kernel_rfl)) (by decide) (fun K hK => ?_)
   refine goes_ Try.func66 (by kernel_rfl) rfl #[.slice Ao21 y106.length co21] (by rfl) rfl rfl (by (try simp only [List.map_toArray, List.map_cons, List.map_nil]); first | done | rfl | (simp only [List.length_drop, List.length_take]; rfl)) ?_
   with_reducible refine (cmp_Or_string.calls _ _ y106 t109 _ ?side1 ?side2 A6.out).mono ?_
   (case side1 => repeat (first | exact (Kd.R_reads' HO108.out).2.2 | (with_reducible refine Kd.C_alloc ?_ _) | (with_reducible refine Kd.C_drewN ?_ _) | (with_reducible refine Kd.C_drew ?_)))
   (case side2 => exact (Kd.R_reads' HO108.out).2.1)
   rintro e w22 ⟨rfl, hb⟩
   refine ⟨_, rfl, ?_⟩
   have n0_ := Aside0.mk (Kd.R_below (kR_ HO_3) hb)
   have n1_ := Aside0.mk (Kd.R_below (kR_ HO108) hb)
   have n2_ := Aside0.mk (blk_below (grw BK104.out) hb)
   have n3_ := Aside0.mk (below_step bw_ hb)
   clear HO_3
   clear HO108
   clear BK104
   clear HB
   have HO_3 := n0_
   have HO108 := n1_
   have BK104 := n2_
   have HB := n3_
   clear n0_ n1_ n2_ n3_
   (try clear hb)
   (try clear hb2)
   (try clear hk)
   (try clear hi)
   refine hK.out _ _ ⟨(blk_cell BK104.out 0).trans rfl, (blk_cell BK104.out 1).trans rfl, (blk_cell BK104.out 2).trans rfl⟩ (fun hHeld => ?_)
   clear hK K
   refine norm_ (a' := ?_) ?_ ?_
   rotate_left
   ·show Act.put _ (some 17) _ = _
    simp only [Act.put, sb_, s0_, s1_, i64_w, i32_w]
    rfl
   refine pure_ (i := 6) (N := some 18) (v := ?_) (a' := ?_) bw1_11 rfl rfl (any_of HT_.out (by kernel_rfl)) (fun _ _ _ h => h) (Or.inl ⟨by rfl, ?_⟩) ?_ ?_
   rotate_left
   ·intro w'
    go_simp
    with_reducible rfl
   rotate_left
   ·simp only [Act.put, sb_, s0_, s1_, i64_w, i32_w]
    rfl
   refine one_ (i := 9) (N := some 21) bw1_12 rfl rfl (one_of HT_.out (by kernel_rfl)) (by decide) (fun K hK => ?_)
   refine goes_ Try.func67 (by kernel_rfl) rfl #[.int .i64 ((rd_T64 l0 x8_1).f1)] (by rfl) rfl rfl (by (try simp only [List.map_toArray, List.map_cons, List.map_nil]); first | done | rfl | (simp only [List.length_drop, List.length_take]; rfl)) ?_
   with_reducible refine (val_Put.calls ((rd_T64 l0 x8_1).f1) t110 _ A8.out).mono ?_
   rintro e w23 ⟨rfl, hb⟩
   refine ⟨_, rfl, ?_⟩
   have n0_ := Aside0.mk (Kd.R_below (kR_ HO_3) hb)
   have n1_ := Aside0.mk (Kd.R_below (kR_ HO108) hb)
   have n2_ := Aside0.mk (blk_below (grw BK104.out) hb)
   have n3_ := Aside0.mk (below_step bw_ hb)
   clear HO_3
   clear HO108
   clear BK104
   clear HB
   have HO_3 := n0_
   have HO108 := n1_
   have BK104 := n2_
   have HB := n3_
   clear n0_ n1_ n2_ n3_
   (try clear hb)
   (try clear hb2)
   (try clear hk)
   (try clear hi)
   refine hK.out _ _ ⟨(blk_cell BK104.out 0).trans rfl, (blk_cell BK104.out 1).trans rfl, (blk_cell BK104.out 2).trans rfl⟩ (fun hHeld => ?_)
   clear hK K
   refine norm_ (a' := ?_) ?_ ?_
   rotate_left
   ·show Act.put _ (some 21) _ = _
    simp only [Act.put, sb_, s0_, s1_, i64_w, i32_w]
    rfl
   refine pure_ (i := 10) (N := some 22) (v := ?_) (a' := ?_) bw1_13 rfl rfl (any_of HT_.out (by kernel_rfl)) (fun _ _ _ h => h) (Or.inl ⟨by rfl, ?_⟩) ?_ ?_
   rotate_left
   ·intro w'
    go_simp
    with_reducible rfl
   rotate_left
   ·simp only [Act.put, sb_, s0_, s1_, i64_w, i32_w]
    rfl
   refine pure_ (i := 11) (N := some 23) (v := ?_) (a' := ?_) bw1_14 rfl rfl (any_of HT_.out (by kernel_rfl)) (fun _ _ _ h => h) (Or.inl ⟨by rfl, ?_⟩) ?_ ?_
   rotate_left
   ·intro w'
    go_simp
    with_reducible rfl
   rotate_left
   ·simp only [Act.put, sb_, s0_, s1_, i64_w, i32_w]
    rfl
   refine one_ (i := 14) (N := some 26) bw1_15 rfl rfl (one_of HT_.out (by kernel_rfl)) (by decide) (fun K hK => ?_)
   refine goes_ Try.func67 (by kernel_rfl) rfl #[.int .i64 ((rd_T64 l0 x8_1).f2)] (by rfl) rfl rfl (by (try simp only [List.map_toArray, List.map_cons, List.map_nil]); first | done | rfl | (simp only [List.length_drop, List.length_take]; rfl)) ?_
   with_reducible refine (val_Put.calls ((rd_T64 l0 x8_1).f2) t111 _ A11.out).mono ?_
   rintro e w24 ⟨rfl, hb⟩
   refine ⟨_, rfl, ?_⟩
   have n0_ := Aside0.mk (Kd.R_below (kR_ HO_3) hb)
   have n1_ := Aside0.mk (Kd.R_below (kR_ HO108) hb)
   have n2_ := Aside0.mk (blk_below (grw BK104.out) hb)
   have n3_ := Aside0.mk (below_step bw_ hb)
   clear HO_3
   clear HO108
   clear BK104
   clear HB
   have HO_3 := n0_
   have HO108 := n1_
   have BK104 := n2_
   have HB := n3_
   clear n0_ n1_ n2_ n3_
   (try clear hb)
   (try clear hb2)
   (try clear hk)
   (try clear hi)
   refine hK.out _ _ ⟨(blk_cell BK104.out 0).trans rfl, (blk_cell BK104.out 1).trans rfl, (blk_cell BK104.out 2).trans rfl⟩ (fun hHeld => ?_)
   clear hK K
   refine norm_ (a' := ?_) ?_ ?_
   rotate_left
   ·show Act.put _ (some 26) _ = _
    simp only [Act.put, sb_, s0_, s1_, i64_w, i32_w]
    rfl
   refine pure_ (i := 15) (N := some 27) (v := ?_) (a' := ?_) bw1_16 rfl rfl (any_of HT_.out (by kernel_rfl)) (fun _ _ _ h => h) (Or.inl ⟨by rfl, ?_⟩) ?_ ?_
   rotate_left
   ·intro w'
    go_simp
    with_reducible rfl
   rotate_left
   ·simp only [Act.put, sb_, s0_, s1_, i64_w, i32_w]
    rfl
   refine one_ (i := 16) (N := some 28) bw1_17 rfl rfl (one_of HT_.out (by kernel_rfl)) (by decide) (fun K hK => ?_)
   refine value_ (w1 := ?_) (v := ?_) (by rfl) rfl ?_ ?_
   rotate_left 2
   ·go_simp
    constructor
    ·rfl
    ·rfl
   refine hK.out _ _ ⟨(blk_cell (blk_alloc BK104.out _) 0).trans rfl, (blk_cell (blk_alloc BK104.out _) 1).trans rfl, (blk_cell (blk_alloc BK104.out _) 2).trans rfl⟩ (fun hHeld => ?_)
   clear hK K
   refine norm_ (a' := ?_) ?_ ?_
   rotate_left
   ·show Act.put _ (some 28) _ = _
    simp only [Act.put, sb_, s0_, s1_, i64_w, i32_w]
    rfl
   refine one_ (i := 17) (N := some 29) bw1_18 rfl rfl (one_of HT_.out (by kernel_rfl)) (by decide) (fun K hK => ?_)
   refine Kd.R_append_step Kd.string (w0 := w) w.heap.size (by rfl) (.tmp 12) (.tmp 28) 22 9 (.string ⟨#[]⟩) 16 rfl Try.underlying22 info9 rfl (by decide) (by omega) u3 x3_1 ((((t109 ++ (⟨#[32]⟩ : ByteArray)) ++ t110) ++ (⟨#[32]⟩ : ByteArray)) ++ t111) [.string ((((t109 ++ (⟨#[32]⟩ : ByteArray)) ++ t110) ++ (⟨#[32]⟩ : ByteArray)) ++ t111)] (fun k_ => some k_ ≠ (.slice Ao21 y106.length co21 : Value).ownBlock) (fun _ => False) rfl rfl ?aP (fun _ hk => hk.elim) ?aF ?aO ?aB ?aS ?aL ?_
   (case aP => exact rfl)
   (case aB => exact bw_)
   (case aF => exact (fun k_ hk => Kd.fresh' (Kd.R_lt (kR_ HO108)) k_ hk))
   (case aO => exact (by (with_reducible repeat (first | apply Kd.R_alloc | apply Kd.R_drewN | apply Kd.R_drew)); exact Kd.R_mono HO_3.out (fun _ hk => hk.2)))
   (case aS => exact (below_size bw_))
   (case aL => have := LMc13.out; omega)
   intro v113 w25 ho hb hg hat
   rw [← Ny112.out] at ho
   have n0_ := Aside0.mk (blk_grown (grw BK104.out) hg (Kd.R_ne HO_3.out BK104.out (by decide)))
   have n1_ := Aside0.mk (Kd.R_after (ok := (fun _ => True)) (kR_ HO108) hg hat)
   have n2_ := Aside0.mk (hb)
   have n3_ := Aside0.mk (ho)
   clear BK104
   clear HO108
   clear HB
   clear HO_3
   have BK104 := n0_
   have HO108 := n1_
   have HB := n2_
   have HO114 := n3_
   clear n0_ n1_ n2_ n3_
   clear ho hb hg hat
   refine hK.out _ _ ⟨(blk_cell BK104.out 0).trans rfl, (blk_cell BK104.out 1).trans rfl, (blk_cell BK104.out 2).trans rfl⟩ (fun hHeld => ?_)
   clear hK K
   refine norm_ (a' := ?_) ?_ ?_
   rotate_left
   ·show Act.put _ (some 29) _ = _
    simp only [Act.put, sb_, s0_, s1_, i64_w, i32_w]
    rfl
   refine pure_ (i := 18) (N := some 3) (v := ?_) (a' := ?_) bw1_19 rfl rfl (any_of HT_.out (by kernel_rfl)) (fun _ _ _ h => h) (Or.inl ⟨by rfl, ?_⟩) ?_ ?_
   rotate_left
   ·intro w'
    go_simp
    with_reducible rfl
   rotate_left
   ·simp only [Act.put, sb_, s0_, s1_, i64_w, i32_w]
    rfl
   refine done_ (done_of HT_.out (by kernel_rfl)) ?_
   try go_wp2
   go_roundg k1
   case measure => have := HK1.out; omega
   case rel => exact ⟨(y112), (wrap64 (x8_1 + 1)), rl_, H', ⟨kn_ HK1⟩, ⟨by (with_reducible repeat (first | apply Kd.R_alloc | apply Kd.R_drewN | apply Kd.R_drew)); exact Kd.R_mono HO114.out (fun _ hk => trivial)⟩, ⟨bw_⟩⟩
/-! ### slices_IndexFunc_string_string: function 100 -/
/-- the first place of which p holds; -1: none -/
def IndexFunc_str.f (p : ByteArray → Bool) (l : List ByteArray) : Int := match l.findIdx? p with | none => -1 | some i => i
theorem IndexFunc_str.hit (p : ByteArray → Bool) (l : List ByteArray) (n : Nat) (hn : n < l.length) (hx : p (rdOf ByteArray.empty l n) = true) (h : ∀ j : Nat, j < n → p (rdOf ByteArray.empty l j) = false) : IndexFunc_str.f p l = n := by
  have : l.findIdx? p = some n := by
    rw [List.findIdx?_eq_some_iff_getElem]
    refine ⟨hn, by simpa [rdOf, hn] using hx, fun j hj => ?_⟩
    have := h j hj
    simpa [rdOf, show j < l.length by omega] using this
  simp [IndexFunc_str.f, this]
theorem IndexFunc_str.miss (p : ByteArray → Bool) (l : List ByteArray) (h : ∀ j : Nat, j < l.length → p (rdOf ByteArray.empty l j) = false) : IndexFunc_str.f p l = -1 := by
  have : l.findIdx? p = none := by
    rw [List.findIdx?_eq_none_iff]
    intro x hx
    obtain ⟨j, hj, rfl⟩ := List.getElem_of_mem hx
    have := h j hj
    simpa [rdOf, hj] using this
  simp [IndexFunc_str.f, this]
set_option maxHeartbeats 2000000 in
theorem IndexFunc_str.calls (p : ByteArray → Bool) (g : Nat) (lb : Array Value) (eg : ∀ args w, (callFunc g args).run Try.prog w = .ok (.enter g args) w) (A0 : Option Addr) (c0 : Nat) (l0 : List ByteArray) (w : World) (hr0 : Kd.C Kd.string w A0 l0.length l0) (hbig : l0.length ≤ 9223372036854775807)
    (hp : ∀ W, Below w.heap.size w W → ∀ x : ByteArray, x ∈ l0 → Calls Try.prog g (#[.string x] ++ lb) W fun e w' => e = .returned (.bool (p x)) ∧ Below w.heap.size w w') :
    Calls Try.prog 100 #[.slice A0 l0.length c0, .func (.func g) #[] lb] w fun e w' => e = .returned (.int .i64 (IndexFunc_str.f p l0)) ∧ Below w.heap.size w w' := by
  have HR := Aside0.mk hr0
  have HPF := Aside0.mk hp
  clear hr0 hp
  go_enter Try.func100, Try.ntmps100
  go_wp2
  go_loopg [8] l0.length (fun kq v8 wr => ∃ n : Nat, Aside0 (n ≤ l0.length) ∧ Aside0 (l0.length - n = kq) ∧ v8 = .int .i64 (n : Int) ∧ Aside0 (Below w.heap.size w wr) ∧ Aside0 (∀ j : Nat, j < n → p (rdOf ByteArray.empty l0 j) = false))
  case atStart => exact ⟨0, ⟨Nat.zero_le _⟩, ⟨by omega⟩, rfl, ⟨Below.refl _ _⟩, ⟨fun j hj => absurd hj (Nat.not_lt_zero _)⟩⟩
  case round =>
    obtain ⟨n, HN, HK, rfl, HB, HP⟩ := hrel
    by_cases hlt : n < l0.length
    · have hlt' : decide ((n : Int) < (l0.length : Int)) = true := decide_eq_true (by omega)
      have hC := Kd.C_below HR.out HB.out
      obtain ⟨ad, e1, hx0⟩ := Kd.at_string hC (n : Int) (by omega) (by omega)
      subst e1
      rw [Int.toNat_natCast] at hx0
      have hcall := HPF.out wr HB.out (rdOf ByteArray.empty l0 (n : Int)) (by rw [show rdOf ByteArray.empty l0 (n : Int) = l0[n]'(by omega) by simp [rdOf, show n < l0.length by omega]]; exact List.getElem_mem _)
      generalize hy : rdOf ByteArray.empty l0 (n : Int) = y at hx0 hcall
      have HY := Aside0.mk hy
      clear hy hC
      cases hq : p y with
      | true =>
        rw [hq] at hcall
        have HC := Aside0.mk hcall
        have HQ := Aside0.mk hq
        clear hcall hq
        go_wp2_with fail
        refine HC.out.mono ?_
        rintro e w' ⟨rfl, hb'⟩
        go_wp2
        go_ret
        refine ⟨?_, hb'⟩
        rw [IndexFunc_str.hit p l0 n hlt (by rw [HY.out]; exact HQ.out) HP.out]
        rfl
      | false =>
        rw [hq] at hcall
        have HC := Aside0.mk hcall
        have HQ := Aside0.mk hq
        clear hcall hq
        go_wp2_with fail
        refine HC.out.mono ?_
        rintro e w' ⟨rfl, hb'⟩
        go_wp2
        go_roundg (l0.length - (n + 1))
        case measure => have := HK.out; omega
        case rel =>
          refine ⟨n + 1, ⟨hlt⟩, ⟨rfl⟩, by go_num, ⟨hb'⟩, ⟨fun j hj => ?_⟩⟩
          by_cases e : j = n
          · subst e; rw [HY.out]; exact HQ.out
          · exact HP.out j (by omega)
    · have hlt' : decide ((n : Int) < (l0.length : Int)) = false := decide_eq_false (by omega)
      have hn : n = l0.length := by have := HN.out; omega
      have HNN := Aside0.mk hn
      clear hn
      go_wp2
      go_ret
      exact ⟨by rw [IndexFunc_str.miss p l0 (fun j hj => HP.out j (by have := HNN.out; omega))]; rfl, HB.out⟩


/-! ### names_Keyword: function 140 -/
def names_Keyword.j0 : Nat → ByteArray → Bool → Option (Bool)
  | 0, _, _ => none
  | k + 1, x3, x4 => if x4 = true then (some true) else (if x3.toList = ([97, 110, 121] : List UInt8) then (some true) else (if x3.toList = ([105, 110] : List UInt8) then (some true) else (if x3.toList = ([109, 105, 110] : List UInt8) then (some true) else (if x3.toList = ([109, 97, 120] : List UInt8) then (some true) else (if x3.toList = ([110, 111, 116] : List UInt8) then (some true) else (if x3.toList = ([116, 114, 117, 101] : List UInt8) then (some true) else (if x3.toList = ([102, 97, 108, 115, 101] : List UInt8) then (some true) else (some false))))))))
def names_Keyword.f (k : Nat) (a0 : ByteArray) : Option (Bool) := if a0.toList = ([99, 104, 97, 114, 116] : List UInt8) then (names_Keyword.j0 k a0 (a0.toList == ([99, 104, 97, 114, 116] : List UInt8))) else (if a0.toList = ([101, 118, 101, 110, 116] : List UInt8) then (names_Keyword.j0 k a0 (a0.toList == ([101, 118, 101, 110, 116] : List UInt8))) else (if a0.toList = ([118, 97, 114] : List UInt8) then (names_Keyword.j0 k a0 (a0.toList == ([118, 97, 114] : List UInt8))) else (if a0.toList = ([108, 101, 97, 102] : List UInt8) then (names_Keyword.j0 k a0 (a0.toList == ([108, 101, 97, 102] : List UInt8))) else (if a0.toList = ([111, 114] : List UInt8) then (names_Keyword.j0 k a0 (a0.toList == ([111, 114] : List UInt8))) else (if a0.toList = ([97, 110, 100] : List UInt8) then (names_Keyword.j0 k a0 (a0.toList == ([97, 110, 100] : List UInt8))) else (if a0.toList = ([101, 110, 116, 101, 114] : List UInt8) then (names_Keyword.j0 k a0 (a0.toList == ([101, 110, 116, 101, 114] : List UInt8))) else (if a0.toList = ([101, 120, 105, 116] : List UInt8) then (names_Keyword.j0 k a0 (a0.toList == ([101, 120, 105, 116] : List UInt8))) else (if a0.toList = ([111, 110] : List UInt8) then (names_Keyword.j0 k a0 (a0.toList == ([111, 110] : List UInt8))) else (names_Keyword.j0 k a0 (a0.toList == ([97, 117, 116, 111] : List UInt8)))))))))))
theorem names_Keyword.mono_l : ∀ k, (∀ y0 y1, LeO (names_Keyword.j0 k y0 y1) (names_Keyword.j0 (k + 1) y0 y1))
  | 0 => fun _ _ r h => by simp [names_Keyword.j0] at h
  | k + 1 => by
    have ih0 := names_Keyword.mono_l k
    · intro y0 y1
      unfold names_Keyword.j0
      exact mo_
theorem names_Keyword.mono : ∀ a0 k, LeO (names_Keyword.f k a0) (names_Keyword.f (k + 1) a0) := by
  intro a0 k
  have ih0 := names_Keyword.mono_l k
  unfold names_Keyword.f
  exact mo_
instance names_Keyword.lc : ∀ a0 k, LeC (names_Keyword.f k a0) (names_Keyword.f (k + 1) a0) := fun a0 k => ⟨names_Keyword.mono a0 k⟩
set_option maxHeartbeats 8000000 in
set_option maxRecDepth 100000 in
theorem names_Keyword.calls (k : Nat) (a0 : ByteArray) (r : Bool) (w : World) (h : names_Keyword.f k a0 = some r) :
  Calls Try.prog 140 #[.string a0] w fun e w' => e = .returned (.bool r) ∧ Drawn0 w w' := by
 unfold names_Keyword.f at h
 have HC2 := Aside0.mk h
 clear h
 go_enter Try.func140, Try.ntmps140
 go_upto_if 4 with (fail)
 go_cut [4] (fun v4 wc => ∃ (kq : Nat) (x4_1 : Bool), v4 = .bool x4_1 ∧ Aside0 (names_Keyword.j0 kq a0 x4_1 = some r) ∧ Aside0 (kq ≤ k) ∧ Drawn0 w wc)
 case first =>
  have H := HC2.out
  clear HC2
  replace H := id_ H; obtain ⟨c3, H⟩ | ⟨c3, H⟩ := H
  ·have c3b0 : (a0.toList == ([99, 104, 97, 114, 116] : List UInt8)) = true := beq_iff_eq.mpr c3
   have c3b1 : (a0.toList != ([99, 104, 97, 114, 116] : List UInt8)) = false := bne_eq_false_iff_eq.mpr c3
   clear c3
   (first | rw [c3b0] | (simp only [i64_w, i32_w]; rw [c3b0]) | skip)
   have H' := Aside0.mk H
   clear H
   go_wp2
   go_meet
   case rel => exact ⟨_, ((a0.toList == ([99, 104, 97, 114, 116] : List UInt8))), rl_, H', ⟨km_⟩, dw_⟩
  have c3b0 : (a0.toList == ([99, 104, 97, 114, 116] : List UInt8)) = false := beq_eq_false_iff_ne.mpr c3
  have c3b1 : (a0.toList != ([99, 104, 97, 114, 116] : List UInt8)) = true := bne_iff_ne.mpr c3
  (first | rw [c3b0] | (simp only [i64_w, i32_w]; rw [c3b0]) | skip)
  replace H := id_ H; obtain ⟨c4, H⟩ | ⟨c4, H⟩ := H
  ·have c4b0 : (a0.toList == ([101, 118, 101, 110, 116] : List UInt8)) = true := beq_iff_eq.mpr c4
   have c4b1 : (a0.toList != ([101, 118, 101, 110, 116] : List UInt8)) = false := bne_eq_false_iff_eq.mpr c4
   clear c4
   have H' := Aside0.mk H
   clear H
   go_wp2
   go_meet
   case rel => exact ⟨_, ((a0.toList == ([101, 118, 101, 110, 116] : List UInt8))), rl_, H', ⟨km_⟩, dw_⟩
  have c4b0 : (a0.toList == ([101, 118, 101, 110, 116] : List UInt8)) = false := beq_eq_false_iff_ne.mpr c4
  have c4b1 : (a0.toList != ([101, 118, 101, 110, 116] : List UInt8)) = true := bne_iff_ne.mpr c4
  replace H := id_ H; obtain ⟨c5, H⟩ | ⟨c5, H⟩ := H
  ·have c5b0 : (a0.toList == ([118, 97, 114] : List UInt8)) = true := beq_iff_eq.mpr c5
   have c5b1 : (a0.toList != ([118, 97, 114] : List UInt8)) = false := bne_eq_false_iff_eq.mpr c5
   clear c5
   have H' := Aside0.mk H
   clear H
   go_wp2
   go_meet
   case rel => exact ⟨_, ((a0.toList == ([118, 97, 114] : List UInt8))), rl_, H', ⟨km_⟩, dw_⟩
  have c5b0 : (a0.toList == ([118, 97, 114] : List UInt8)) = false := beq_eq_false_iff_ne.mpr c5
  have c5b1 : (a0.toList != ([118, 97, 114] : List UInt8)) = true := bne_iff_ne.mpr c5
  replace H := id_ H; obtain ⟨c6, H⟩ | ⟨c6, H⟩ := H
  ·have c6b0 : (a0.toList == ([108, 101, 97, 102] : List UInt8)) = true := beq_iff_eq.mpr c6
   have c6b1 : (a0.toList != ([108, 101, 97, 102] : List UInt8)) = false := bne_eq_false_iff_eq.mpr c6
   clear c6
   have H' := Aside0.mk H
   clear H
   go_wp2
   go_meet
   case rel => exact ⟨_, ((a0.toList == ([108, 101, 97, 102] : List UInt8))), rl_, H', ⟨km_⟩, dw_⟩
  have c6b0 : (a0.toList == ([108, 101, 97, 102] : List UInt8)) = false := beq_eq_false_iff_ne.mpr c6
  have c6b1 : (a0.toList != ([108, 101, 97, 102] : List UInt8)) = true := bne_iff_ne.mpr c6
  replace H := id_ H; obtain ⟨c7, H⟩ | ⟨c7, H⟩ := H
  ·have c7b0 : (a0.toList == ([111, 114] : List UInt8)) = true := beq_iff_eq.mpr c7
   have c7b1 : (a0.toList != ([111, 114] : List UInt8)) = false := bne_eq_false_iff_eq.mpr c7
   clear c7
   have H' := Aside0.mk H
   clear H
   go_wp2
   go_meet
   case rel => exact ⟨_, ((a0.toList == ([111, 114] : List UInt8))), rl_, H', ⟨km_⟩, dw_⟩
  have c7b0 : (a0.toList == ([111, 114] : List UInt8)) = false := beq_eq_false_iff_ne.mpr c7
  have c7b1 : (a0.toList != ([111, 114] : List UInt8)) = true := bne_iff_ne.mpr c7
  replace H := id_ H; obtain ⟨c8, H⟩ | ⟨c8, H⟩ := H
  ·have c8b0 : (a0.toList == ([97, 110, 100] : List UInt8)) = true := beq_iff_eq.mpr c8
   have c8b1 : (a0.toList != ([97, 110, 100] : List UInt8)) = false := bne_eq_false_iff_eq.mpr c8
   clear c8
   have H' := Aside0.mk H
   clear H
   go_wp2
   go_meet
   case rel => exact ⟨_, ((a0.toList == ([97, 110, 100] : List UInt8))), rl_, H', ⟨km_⟩, dw_⟩
  have c8b0 : (a0.toList == ([97, 110, 100] : List UInt8)) = false := beq_eq_false_iff_ne.mpr c8
  have c8b1 : (a0.toList != ([97, 110, 100] : List UInt8)) = true := bne_iff_ne.mpr c8
  replace H := id_ H; obtain ⟨c9, H⟩ | ⟨c9, H⟩ := H
  ·have c9b0 : (a0.toList == ([101, 110, 116, 101, 114] : List UInt8)) = true := beq_iff_eq.mpr c9
   have c9b1 : (a0.toList != ([101, 110, 116, 101, 114] : List UInt8)) = false := bne_eq_false_iff_eq.mpr c9
   clear c9
   have H' := Aside0.mk H
   clear H
   go_wp2
   go_meet
   case rel => exact ⟨_, ((a0.toList == ([101, 110, 116, 101, 114] : List UInt8))), rl_, H', ⟨km_⟩, dw_⟩
  have c9b0 : (a0.toList == ([101, 110, 116, 101, 114] : List UInt8)) = false := beq_eq_false_iff_ne.mpr c9
  have c9b1 : (a0.toList != ([101, 110, 116, 101, 114] : List UInt8)) = true := bne_iff_ne.mpr c9
  replace H := id_ H; obtain ⟨c10, H⟩ | ⟨c10, H⟩ := H
  ·have c10b0 : (a0.toList == ([101, 120, 105, 116] : List UInt8)) = true := beq_iff_eq.mpr c10
   have c10b1 : (a0.toList != ([101, 120, 105, 116] : List UInt8)) = false := bne_eq_false_iff_eq.mpr c10
   clear c10
   have H' := Aside0.mk H
   clear H
   go_wp2
   go_meet
   case rel => exact ⟨_, ((a0.toList == ([101, 120, 105, 116] : List UInt8))), rl_, H', ⟨km_⟩, dw_⟩
  have c10b0 : (a0.toList == ([101, 120, 105, 116] : List UInt8)) = false := beq_eq_false_iff_ne.mpr c10
  have c10b1 : (a0.toList != ([101, 120, 105, 116] : List UInt8)) = true := bne_iff_ne.mpr c10
  replace H := ic_ H; obtain ⟨c11, H⟩ | ⟨c11, H⟩ := H
  ·have c11b0 : (a0.toList == ([111, 110] : List UInt8)) = false := beq_eq_false_iff_ne.mpr c11
   have c11b1 : (a0.toList != ([111, 110] : List UInt8)) = true := bne_iff_ne.mpr c11
   have H' := Aside0.mk H
   clear H
   go_wp2
   go_meet
   case rel => exact ⟨_, ((a0.toList == ([97, 117, 116, 111] : List UInt8))), rl_, H', ⟨km_⟩, dw_⟩
  have c11b0 : (a0.toList == ([111, 110] : List UInt8)) = true := beq_iff_eq.mpr c11
  have c11b1 : (a0.toList != ([111, 110] : List UInt8)) = false := bne_eq_false_iff_eq.mpr c11
  clear c11
  have H' := Aside0.mk H
  clear H
  go_wp2
  go_meet
  case rel => exact ⟨_, ((a0.toList == ([111, 110] : List UInt8))), rl_, H', ⟨km_⟩, dw_⟩
 case rest =>
  clear HC2
  obtain ⟨kq, x4_1, rfl, HA, HJ1, ⟨mc1, rfl⟩⟩ := hcut
  cases kq with
  | zero => exact absurd HA.out (by simp [names_Keyword.j0])
  | succ kj1 =>
   have H := HA.out
   clear HA
   simp only [names_Keyword.j0] at H
   replace H := ie_ H; obtain ⟨rfl, H⟩ | ⟨rfl, H⟩ := H
   ·obtain rfl := Option.some.inj H
    go_wp2
    go_ret
    exact ⟨rl_, dw_⟩
   replace H := id_ H; obtain ⟨c13, H⟩ | ⟨c13, H⟩ := H
   ·have c13b0 : (a0.toList == ([97, 110, 121] : List UInt8)) = true := beq_iff_eq.mpr c13
    have c13b1 : (a0.toList != ([97, 110, 121] : List UInt8)) = false := bne_eq_false_iff_eq.mpr c13
    clear c13
    obtain rfl := Option.some.inj H
    go_wp2
    go_ret
    exact ⟨rl_, dw_⟩
   have c13b0 : (a0.toList == ([97, 110, 121] : List UInt8)) = false := beq_eq_false_iff_ne.mpr c13
   have c13b1 : (a0.toList != ([97, 110, 121] : List UInt8)) = true := bne_iff_ne.mpr c13
   replace H := id_ H; obtain ⟨c14, H⟩ | ⟨c14, H⟩ := H
   ·have c14b0 : (a0.toList == ([105, 110] : List UInt8)) = true := beq_iff_eq.mpr c14
    have c14b1 : (a0.toList != ([105, 110] : List UInt8)) = false := bne_eq_false_iff_eq.mpr c14
    clear c14
    obtain rfl := Option.some.inj H
    go_wp2
    go_ret
    exact ⟨rl_, dw_⟩
   have c14b0 : (a0.toList == ([105, 110] : List UInt8)) = false := beq_eq_false_iff_ne.mpr c14
   have c14b1 : (a0.toList != ([105, 110] : List UInt8)) = true := bne_iff_ne.mpr c14
   replace H := id_ H; obtain ⟨c15, H⟩ | ⟨c15, H⟩ := H
   ·have c15b0 : (a0.toList == ([109, 105, 110] : List UInt8)) = true := beq_iff_eq.mpr c15
    have c15b1 : (a0.toList != ([109, 105, 110] : List UInt8)) = false := bne_eq_false_iff_eq.mpr c15
    clear c15
    obtain rfl := Option.some.inj H
    go_wp2
    go_ret
    exact ⟨rl_, dw_⟩
   have c15b0 : (a0.toList == ([109, 105, 110] : List UInt8)) = false := beq_eq_false_iff_ne.mpr c15
   have c15b1 : (a0.toList != ([109, 105, 110] : List UInt8)) = true := bne_iff_ne.mpr c15
   replace H := id_ H; obtain ⟨c16, H⟩ | ⟨c16, H⟩ := H
   ·have c16b0 : (a0.toList == ([109, 97, 120] : List UInt8)) = true := beq_iff_eq.mpr c16
    have c16b1 : (a0.toList != ([109, 97, 120] : List UInt8)) = false := bne_eq_false_iff_eq.mpr c16
    clear c16
    obtain rfl := Option.some.inj H
    go_wp2
    go_ret
    exact ⟨rl_, dw_⟩
   have c16b0 : (a0.toList == ([109, 97, 120] : List UInt8)) = false := beq_eq_false_iff_ne.mpr c16
   have c16b1 : (a0.toList != ([109, 97, 120] : List UInt8)) = true := bne_iff_ne.mpr c16
   replace H := id_ H; obtain ⟨c17, H⟩ | ⟨c17, H⟩ := H
   ·have c17b0 : (a0.toList == ([110, 111, 116] : List UInt8)) = true := beq_iff_eq.mpr c17
    have c17b1 : (a0.toList != ([110, 111, 116] : List UInt8)) = false := bne_eq_false_iff_eq.mpr c17
    clear c17
    obtain rfl := Option.some.inj H
    go_wp2
    go_ret
    exact ⟨rl_, dw_⟩
   have c17b0 : (a0.toList == ([110, 111, 116] : List UInt8)) = false := beq_eq_false_iff_ne.mpr c17
   have c17b1 : (a0.toList != ([110, 111, 116] : List UInt8)) = true := bne_iff_ne.mpr c17
   replace H := id_ H; obtain ⟨c18, H⟩ | ⟨c18, H⟩ := H
   ·have c18b0 : (a0.toList == ([116, 114, 117, 101] : List UInt8)) = true := beq_iff_eq.mpr c18
    have c18b1 : (a0.toList != ([116, 114, 117, 101] : List UInt8)) = false := bne_eq_false_iff_eq.mpr c18
    clear c18
    obtain rfl := Option.some.inj H
    go_wp2
    go_ret
    exact ⟨rl_, dw_⟩
   have c18b0 : (a0.toList == ([116, 114, 117, 101] : List UInt8)) = false := beq_eq_false_iff_ne.mpr c18
   have c18b1 : (a0.toList != ([116, 114, 117, 101] : List UInt8)) = true := bne_iff_ne.mpr c18
   replace H := ic_ H; obtain ⟨c19, H⟩ | ⟨c19, H⟩ := H
   ·have c19b0 : (a0.toList == ([102, 97, 108, 115, 101] : List UInt8)) = false := beq_eq_false_iff_ne.mpr c19
    have c19b1 : (a0.toList != ([102, 97, 108, 115, 101] : List UInt8)) = true := bne_iff_ne.mpr c19
    obtain rfl := Option.some.inj H
    go_wp2
    go_ret
    exact ⟨rl_, dw_⟩

   have c19b0 : (a0.toList == ([102, 97, 108, 115, 101] : List UInt8)) = true := beq_iff_eq.mpr c19
   have c19b1 : (a0.toList != ([102, 97, 108, 115, 101] : List UInt8)) = false := bne_eq_false_iff_eq.mpr c19
   clear c19
   obtain rfl := Option.some.inj H
   go_wp2
   go_ret
   exact ⟨rl_, dw_⟩
end Go.Proofs.Ytbkaiojofgmbnaa.XL
