-- written by wip/xprint.py out of the translation
import Derived.Test.YtjlegibfeenglaaXPp0
namespace Go.Proofs.Ytjlegibfeenglaa.XP
open Go.RowKit Go.Proofs.YtjlegibfeenglaaW.PrintWords Go.Proofs.YtjlegibfeenglaaW.PrintLast Go.Proofs.YtjlegibfeenglaaW.PrintMore
attribute [local go_sem] max2_int min2_int max_two min_two max_three min_three max_four min_four   -- for this text's walks alone
set_option linter.unusedVariables false
set_option linter.unusedSimpArgs false

/-! ### part_number_2_int: function 57 -/
def number_2.kd : Kd (Int × Int) := Kd.pair (Kd.int .i64) (Kd.int .i64)
def number_2.val (x : Int × Int) : Value := .agg #[.int .i64 x.1, .int .i64 x.2]
def number_2.ok (x : Int × Int) : Prop := (Lit.int .i64 x.1).wf = true ∧ (Lit.int .i64 x.2).wf = true
def number_2.lit (x : Int × Int) : Lit := .string (keyBytes [.int .i64 x.1, .int .i64 x.2])
def number_2.rd2 (xs : List (Int × Int)) (i : Int) : Int × Int := xs.getD i.toNat (0, 0)
def number_2.f (l0 : List (Int × Int)) : Option (List Int) := if l0.length ≤ 1000000 then (if (l0.all fun x => (Lit.int .i64 x.1).wf && (Lit.int .i64 x.2).wf) = true then some (Go.Proofs.Ytjlegibfeenglaa.XNumber.numF l0) else none) else none
theorem number_2.zeroE (w : World) : (zeroValue 3).run Try.prog w = .ok (.int .i64 0) w := by kernel_rfl
set_option maxRecDepth 100000 in
theorem number_2.deep : Try.prog.keyTypeAt (Try.prog.types.size + 1) 81 = true := by kernel_rfl
set_option maxRecDepth 100000 in
theorem number_2.cells : Try.prog.cellsOf 81 = 2 := by kernel_rfl
theorem number_2.cell1 : Try.prog.cellsOf 3 = 1 := by kernel_rfl
set_option maxRecDepth 100000 in
theorem number_2.laid : laidOutB Try.prog = true := by kernel_rfl
set_option maxRecDepth 100000 in
theorem number_2.row : (81 : TypeId) < Try.prog.types.size := of_decide_eq_true (by kernel_rfl)
theorem number_2.wide : (match Try.prog.underlying 81 with | some (.array _ _) | some (.struct _) => true | _ => false) = true := by rw [Try.underlying81]
set_option maxRecDepth 100000 in
theorem number_2.law : Go.Maps.Keyed Try.prog 81 := Go.Maps.Keyed.of_law (Go.deep_law_laid number_2.laid (m := 2) (by omega) number_2.row (by kernel_rfl) number_2.wide)
theorem number_2.formed (x : Int × Int) : (number_2.val x).formed Try.prog 81 = true := by simp [Value.formed, Try.underlying81, number_2.cells, number_2.val]
set_option maxRecDepth 100000 in
theorem number_2.size : ∃ n, Try.prog.types.size = n + 1 := ⟨Try.prog.types.size - 1, (Nat.succ_pred_eq_of_pos (Nat.lt_of_le_of_lt (Nat.zero_le _) number_2.row)).symm⟩
theorem number_2.key {x : Int × Int} (h : number_2.ok x) : Go.keyOf Try.prog 81 (number_2.val x) = some (number_2.lit x) := by
  obtain ⟨n, hn⟩ := number_2.size
  obtain ⟨h1, h2⟩ := h
  have hk : Try.prog.keyType 81 = true := number_2.deep
  unfold Go.keyOf
  rw [Try.underlying81]
  simp only [hk, number_2.formed x, Bool.and_true, Bool.and_self, if_true]
  rw [hn]
  simp [Program.keyLits, Try.underlying81, Try.underlying3, number_2.val, number_2.cells, number_2.cell1, Value.cells, h1, h2, number_2.lit, List.range_succ]
theorem number_2.inj {x y : Int × Int} (hx : number_2.ok x) (hy : number_2.ok y) (h : number_2.lit x = number_2.lit y) : x = y := by
  have h1 := number_2.law.inj (number_2.key hx) (h ▸ number_2.key hy)
  unfold number_2.val at h1
  obtain ⟨a, b⟩ := x
  obtain ⟨c, d⟩ := y
  simp at h1
  rw [h1.1, h1.2]
theorem number_2.at_ {w : World} {A : Option Addr} {n : Nat} {xs : List (Int × Int)} (h : Kd.C number_2.kd w A n xs) (i : Int) (h0 : 0 ≤ i) (h1 : i < n) :
    ∃ ad, A = some ad ∧ w.cell? (ad.add (i.toNat * 2)) = some (.int .i64 (number_2.rd2 xs i).1) ∧ w.cell? ⟨(ad.add (i.toNat * 2)).block, (ad.add (i.toNat * 2)).off + 1, none⟩ = some (.int .i64 (number_2.rd2 xs i).2) := by
  obtain ⟨ad, c, e, _, hK, hc0⟩ := Kd.C_get h (0, 0) i h0 h1
  have hc : ∀ j u, c[j]? = some u → w.cell? (ad.add (i.toNat * 2 + j)) = some u := hc0
  obtain ⟨c1, c2, rfl, rfl, rfl⟩ := hK
  exact ⟨ad, e, hc 0 _ rfl, by rw [← add_field _ _ 1 (by omega)]; exact hc 1 _ rfl⟩
/-- the loop's relation but for its slots -/
def number_2.Rel (W : World) (g i : Nat) (v : Value) (l0 : List (Int × Int)) : Prop :=
  (∃ D : DataW Unit, W.ownsMap Try.prog 81 (plainElem Try.prog 3) g i D ∧ Go.Proofs.Ytjlegibfeenglaa.XNumber.Good number_2.lit number_2.ok D (Go.Proofs.Ytjlegibfeenglaa.XNumber.run (l0.take i)).1) ∧ Kd.R (Kd.int .i64) 3 W g (fun k => k ≠ g) v (Go.Proofs.Ytjlegibfeenglaa.XNumber.run (l0.take i)).2
set_option maxRecDepth 100000 in
set_option maxHeartbeats 2000000 in
theorem number_2.calls (A0 : Option Addr) (c0 : Nat) (l0 : List (Int × Int)) (r : List Int) (w : World) (hr0 : Kd.C number_2.kd w A0 l0.length l0) (hc0 : l0.length ≤ c0) (h : number_2.f l0 = some r) :
    Calls Try.prog 57 #[.slice A0 l0.length c0] w fun e w' => ∃ v0_ : Value, e = .returned v0_ ∧ Kd.R (Kd.int .i64) 3 w' w.heap.size (fun _ => True) v0_ r ∧ Below w.heap.size w w' := by
  unfold number_2.f at h
  split at h
  case isFalse => cases h
  case isTrue hlen =>
  split at h
  case isFalse => cases h
  case isTrue hall =>
  have HRR := Aside0.mk (Option.some.inj h)
  have HWF := Aside0.mk (List.all_eq_true.1 hall)
  have HR := Aside0.mk hr0
  clear h hall hr0
  have hmm := @run_makeMap Try.prog
  go_enter Try.func57, Try.ntmps57
  go_wp2_with fail
  go_loopg [4, 12] l0.length (fun kq v4' v12 wr' => ∃ (v4 : Value) (wr : World) (i : Nat), v4 = v4' ∧ wr = wr' ∧ Aside0 (l0.length - i = kq) ∧ Aside0 (i ≤ l0.length) ∧ v12 = .int .i64 (i : Int) ∧ Aside0 (number_2.Rel wr w.heap.size i v4 l0) ∧ Aside0 (Below w.heap.size w wr))
  case atStart => exact ⟨_, _, 0, rfl, rfl, ⟨rfl⟩, ⟨Nat.zero_le _⟩, rfl, ⟨⟨⟨_, World.ownsMap_made _ _ _ _, Go.Proofs.Ytjlegibfeenglaa.XNumber.Good.empty _ _⟩, Kd.R_nil _ _ _ _ _⟩⟩, ⟨(Below.refl _ _).alloc (Nat.le_refl _) _⟩⟩
  case round =>
    obtain ⟨v4, wr, i, rfl, rfl, HK, HI, rfl, HREL, HB⟩ := hrel
    by_cases hi : i < l0.length
    · have hlt : decide ((i : Int) < (l0.length : Int)) = true := decide_eq_true (by omega)
      have hC := Kd.C_below HR.out HB.out
      obtain ⟨ad, e1, hx0, hx1⟩ := number_2.at_ hC (i : Int) (by omega) (by omega)
      subst e1
      rw [Int.toNat_natCast] at hx0 hx1
      have hmem : number_2.rd2 l0 (i : Int) ∈ l0 := by simp only [number_2.rd2, Int.toNat_natCast, List.getD, List.getElem?_eq_getElem hi, Option.getD_some]; exact List.getElem_mem hi
      have hwf : number_2.ok (number_2.rd2 l0 (i : Int)) := by have := HWF.out _ hmem; rw [Bool.and_eq_true] at this; exact this
      have hst : Go.Proofs.Ytjlegibfeenglaa.XNumber.run (l0.take (i + 1)) = Go.Proofs.Ytjlegibfeenglaa.XNumber.step (Go.Proofs.Ytjlegibfeenglaa.XNumber.run (l0.take i)) (number_2.rd2 l0 (i : Int)) := by
        rw [List.take_succ_eq_append_getElem hi, Go.Proofs.Ytjlegibfeenglaa.XNumber.run_snoc]
        simp [number_2.rd2, hi]
      have HST := Aside0.mk hst
      have hsl := Go.Proofs.Ytjlegibfeenglaa.XNumber.seen_length (l0.take i)
      have hnl := Go.Proofs.Ytjlegibfeenglaa.XNumber.numF_length (l0.take i)
      rw [List.length_take, Nat.min_eq_left (by omega)] at hsl hnl
      have hkey := number_2.key hwf
      have HMEM := Aside0.mk hmem
      obtain ⟨⟨D, hD, hG⟩, hO⟩ := HREL.out
      unfold Go.Proofs.Ytjlegibfeenglaa.XNumber.numF at hnl
      generalize hrun : Go.Proofs.Ytjlegibfeenglaa.XNumber.run (l0.take i) = st at *
      obtain ⟨seen, nums⟩ := st
      have HRUN := Aside0.mk hrun
      replace hsl : seen.length ≤ i := hsl
      have HNL := Aside0.mk hnl
      have HO := Aside0.mk hO
      have HG := Aside0.mk hG
      have hgs : Go.Maps.size D = seen.length := HG.out.2.1
      have HGH := Aside0.mk (hG.2.2.1 (number_2.rd2 l0 (i : Int)) hwf)
      generalize hxx : number_2.rd2 l0 (i : Int) = x at *
      have HXX := Aside0.mk hxx
      have HWFX := Aside0.mk hwf
      have HKEY := Aside0.mk hkey
      obtain ⟨xa, xb⟩ := x
      clear hmem hC hst hrun hnl hO hG hxx HREL hwf hkey
      obtain ⟨A4, c4, e4⟩ := Kd.R_slice HO.out
      subst e4
      have hvl : nums.length ≤ 1000000 := by rw [HNL.out]; omega
      have hgl := Go.Proofs.Ytjlegibfeenglaa.XNumber.lt hD
      by_cases hin : (xa, xb) ∈ seen
      · have HHAS : Aside0 (Go.Maps.has D (number_2.lit (xa, xb)) = true) := ⟨HGH.out.trans (decide_eq_true hin)⟩
        have HAT : Aside0 (D.atKey (number_2.lit (xa, xb)) (.lit (.int .i64 0)) = .lit (.int .i64 (seen.idxOf (xa, xb) : Nat))) := ⟨(HG.out.2.2.2 (xa, xb) hin).2⟩
        have hstep : Aside0 (Go.Proofs.Ytjlegibfeenglaa.XNumber.run (l0.take (i + 1)) = (seen, nums ++ [(seen.idxOf (xa, xb) : Int)])) := ⟨by rw [HST.out]; simp [Go.Proofs.Ytjlegibfeenglaa.XNumber.step, hin]⟩
        clear hin hgs
        have HD := Aside0.mk hD
        go_wp2_with (first | (at_lookup; refine wpList_lookup_own_ok_int _ rfl _ _ 122 rfl 81 3 .i64 number_2.law Try.underlying122 Try.underlying3 (number_2.zeroE _) w.heap.size i D rfl (hD.alloc _) _ _ rfl HKEY.out ?_; intro c hat hwc; rw [HHAS.out]; obtain rfl : c = _ := Go.Proofs.Ytjlegibfeenglaa.XNumber.inj (hat.symm.trans HAT.out); clear hat) | ((with_reducible refine gate_builtin (b := .append) (xs := #[.tmp 29, .tmp 31]) rfl ?_); at_builtin; refine Kd.R_append (Kd.int .i64) (w0 := w) w.heap.size rfl (.tmp 29) (.tmp 31) 22 3 (.int .i64 0) 8 rfl Try.underlying22 info3 rfl (by decide) (by omega) (.slice A4 nums.length c4) nums (seen.idxOf (xa, xb) : Nat) [.int .i64 (seen.idxOf (xa, xb) : Nat)] (fun k => k ≠ w.heap.size) (fun _ => False) rfl (by first | rfl | simp [go_sem]) ?aP (fun _ hk => hk.elim) ?aF ?aO ?aB ?aS ?aL ?aK))
        case aP => exact rfl
        case aF => intro k hk e; omega
        case aO => exact Kd.R_alloc HO.out _
        case aB => exact HB.out.alloc HB.out.size _
        case aS => have := HB.out.size; first | omega | (rw [World.size_alloc]; omega)
        case aL => omega
        case aK =>
          intro v1 w3 ho hb hg hat
          have hne : w3.heap[w.heap.size]? = _ := hg.block _ (Go.Proofs.Ytjlegibfeenglaa.XNumber.lt (HD.out.alloc _)) (fun e => (HO.out.1 _ e.symm) rfl)
          have HREL2 : Aside0 (number_2.Rel w3 w.heap.size (i + 1) v1 l0) := ⟨⟨⟨D, (Go.Proofs.Ytjlegibfeenglaa.XNumber.stay (HD.out.alloc _) hne).mono (Nat.le_succ _), by rw [hstep.out]; exact HG.out⟩, by rw [hstep.out]; exact ho⟩⟩
          have HB3 := Aside0.mk hb
          clear ho hb hg hat hne hD
          go_wp2
          go_roundg (l0.length - (i + 1))
          case measure => have := HK.out; omega
          case rel => exact ⟨_, _, i + 1, rfl, rfl, ⟨rfl⟩, ⟨hi⟩, by go_num, HREL2, HB3⟩
      · have HHAS : Aside0 (Go.Maps.has D (number_2.lit (xa, xb)) = false) := ⟨HGH.out.trans (decide_eq_false hin)⟩
        have hstep : Aside0 (Go.Proofs.Ytjlegibfeenglaa.XNumber.run (l0.take (i + 1)) = (seen ++ [(xa, xb)], nums ++ [(seen.length : Int)])) := ⟨by rw [HST.out]; simp [Go.Proofs.Ytjlegibfeenglaa.XNumber.step, hin]⟩
        have HG2 := Aside0.mk (HG.out.put (lit := number_2.lit) trivial HWFX.out (fun a ha h => number_2.inj ha HWFX.out h) hin)
        have HGS := Aside0.mk hgs
        have hwl : (Lit.int .i64 ((seen.length : Nat) : Int)).wf = true := WalkArith.wf_i64 (by omega)
        have HWL := Aside0.mk hwl
        clear hin hgs hwl
        have HD := Aside0.mk hD
        go_wp2_with (first | (at_lookup; refine wpList_lookup_own_ok_int _ rfl _ _ 122 rfl 81 3 .i64 number_2.law Try.underlying122 Try.underlying3 (number_2.zeroE _) w.heap.size i D rfl (hD.alloc _) _ _ rfl HKEY.out ?_; intro c hat hwc; rw [HHAS.out];  clear hat) | (at_len; refine wpList_len_own _ rfl _ 122 rfl 81 3 Try.underlying122 (plainElem Try.prog 3) w.heap.size i D rfl (hD.alloc _) ?_; rw [HGS.out]) | (at_mapUpdate; refine wpList_mapUpdate_own _ rfl _ _ _ 122 rfl 81 3 number_2.law Try.underlying122 _ w.heap.size i _ rfl (hD.alloc _) (by unfold maxLen; omega) _ _ _ rfl rfl HKEY.out _ [] (plainElem_int Try.underlying3 HWL.out) ?_; intro w1 hown1 hgrow1) | ((with_reducible refine gate_builtin (b := .append) (xs := #[.tmp 29, .tmp 31]) rfl ?_); at_builtin; refine Kd.R_append (Kd.int .i64) (w0 := w) w.heap.size rfl (.tmp 29) (.tmp 31) 22 3 (.int .i64 0) 8 rfl Try.underlying22 info3 rfl (by decide) (by omega) (.slice A4 nums.length c4) nums (seen.length : Nat) [.int .i64 (seen.length : Nat)] (fun k => k ≠ w.heap.size) (fun _ => False) rfl rfl ?aP (fun _ hk => hk.elim) ?aF ?aO ?aB ?aS ?aL ?aK))
        case aP => exact rfl
        case aF => intro k hk e; have h1 := hgrow1.size; rw [World.size_alloc] at h1; omega
        case aO => exact Kd.R_grown (Kd.R_alloc HO.out _) hgrow1 (fun k hk e => hk (by injection e))
        case aB => exact (HB.out.alloc HB.out.size _).grown hgrow1 (Nat.le_trans HB.out.size (by rw [World.size_alloc]; exact Nat.le_succ _)) (fun j hj => by cases hj; exact Nat.le_refl _)
        case aS => have := HB.out.size; have h2 := hgrow1.size; first | omega | (rw [World.size_alloc] at h2; omega)
        case aL => omega
        case aK =>
          intro v1 w3 ho hb hg hat
          have hO1 : Kd.R (Kd.int .i64) 3 w1 w.heap.size (fun k => k ≠ w.heap.size) (.slice A4 nums.length c4) nums := Kd.R_grown (Kd.R_alloc HO.out _) hgrow1 (fun k hk e => hk (by injection e))
          have hne : w3.heap[w.heap.size]? = w1.heap[w.heap.size]? := hg.block _ (Go.Proofs.Ytjlegibfeenglaa.XNumber.lt hown1) (fun e => (hO1.1 _ e.symm) rfl)
          have HREL2 : Aside0 (number_2.Rel w3 w.heap.size (i + 1) v1 l0) := ⟨⟨⟨_, Go.Proofs.Ytjlegibfeenglaa.XNumber.stay hown1 hne, by rw [hstep.out]; exact HG2.out⟩, by rw [hstep.out]; exact ho⟩⟩
          have HB3 := Aside0.mk hb
          clear ho hb hg hat hne hD hO1 hown1 hgrow1
          go_wp2
          go_roundg (l0.length - (i + 1))
          case measure => have := HK.out; omega
          case rel => exact ⟨_, _, i + 1, rfl, rfl, ⟨rfl⟩, ⟨hi⟩, by go_num, HREL2, HB3⟩
    · have hlt : decide ((i : Int) < (l0.length : Int)) = false := decide_eq_false (by omega)
      have hil : i = l0.length := by have := HI.out; omega
      have HO := Aside0.mk HREL.out.2
      rw [hil, List.take_length] at HO
      have HRR2 : Aside0 ((Go.Proofs.Ytjlegibfeenglaa.XNumber.run l0).2 = r) := HRR
      rw [HRR2.out] at HO
      go_wp2_with fail
      go_ret
      exact ⟨_, rfl, Kd.R_mono HO.out (fun _ _ => trivial), HB.out⟩


/-! ### part_Meet: function 13 -/
-- USES semblance/part.number[[2]int]
def part_Meet.f (l0 l1 : List Int) : Option (List Int × Int) := if l0.length = l1.length then (if l0.length ≤ 1000000 then (number_2.f (l0.zip l1)).bind fun r => some (r, 0) else none) else some ([], 1)
theorem part_Meet.info : (Try.prog.info? 81).map (fun i => (i.zero, i.size, i.bytes)) = some (some (.agg #[.int .i64 0, .int .i64 0]), 2, 16) := by kernel_rfl
set_option maxRecDepth 100000 in
set_option maxHeartbeats 2000000 in
theorem part_Meet.calls (A0 : Option Addr) (c0 : Nat) (l0 : List Int) (A1 : Option Addr) (c1 : Nat) (l1 : List Int) (r1 : List Int) (r2 : Int) (w : World) (hr0 : Kd.C (Kd.int .i64) w A0 l0.length l0) (hc0 : l0.length ≤ c0) (hr1 : Kd.C (Kd.int .i64) w A1 l1.length l1) (hc1 : l1.length ≤ c1) (h : part_Meet.f l0 l1 = some (r1, r2)) :
    Calls Try.prog 13 #[.slice A0 l0.length c0, .slice A1 l1.length c1] w fun e w' => ∃ v0_ : Value, e = .returned (.tuple #[v0_, .int .i64 r2]) ∧ Kd.R (Kd.int .i64) 3 w' w.heap.size (fun _ => True) v0_ r1 ∧ Below w.heap.size w w' := by
  unfold part_Meet.f at h
  have HR0 := Aside0.mk hr0
  have HR1 := Aside0.mk hr1
  have hm0 := hr0.2.1
  have hm1 := hr1.2.1
  clear hr0 hr1
  by_cases he : l0.length = l1.length
  · rw [if_pos he] at h
    split at h
    case isFalse => cases h
    case isTrue hlen =>
    obtain ⟨r, hr, h⟩ := Option.bind_eq_some_iff.mp h
    have h' := Option.some.inj h
    obtain ⟨rfl, rfl⟩ : r = r1 ∧ 0 = r2 := by injection h' with h1 h2; exact ⟨h1, h2⟩
    have HN := Aside0.mk hr
    clear h h' hr
    generalize hq : l1.length = n1 at *
    subst he
    have HQ := Aside0.mk hq
    clear hq
    go_enter Try.func13, Try.ntmps13
    go_wp2_with fail
    go_loopg [6, 15] l0.length (fun kq v6' v15 wr' => ∃ (v6 : Value) (wr : World) (i : Nat), v6 = v6' ∧ wr = wr' ∧ Aside0 (l0.length - i = kq) ∧ Aside0 (i ≤ l0.length) ∧ v15 = .int .i64 (i : Int) ∧ Aside0 (Kd.R number_2.kd 81 wr w.heap.size (fun _ => True) v6 ((l0.zip l1).take i)) ∧ Aside0 (Below w.heap.size w wr))
    case atStart => exact ⟨_, _, 0, rfl, rfl, ⟨rfl⟩, ⟨Nat.zero_le _⟩, rfl, ⟨Kd.R_nil _ _ _ _ _⟩, ⟨Below.refl _ _⟩⟩
    case round =>
      obtain ⟨v6, wr, i, rfl, rfl, HK, HI, rfl, HO, HB⟩ := hrel
      by_cases hi : i < l0.length
      · have hlt : decide ((i : Int) < (l0.length : Int)) = true := decide_eq_true (by omega)
        obtain ⟨ad0, e0, hw0⟩ := Kd.at_int HR0.out (i : Int) (by omega) (by omega)
        obtain ⟨ad1, e1, hw1⟩ := Kd.at_int HR1.out (i : Int) (by omega) (by omega)
        subst e0
        subst e1
        rw [Int.toNat_natCast] at hw0 hw1
        have hx0 := pw_cell_below HB.out hw0
        have hx1 := pw_cell_below HB.out hw1
        have HW0 := Aside0.mk hw0
        have HW1 := Aside0.mk hw1
        clear hw0 hw1
        have hzl : ((l0.zip l1).take i).length = i := by rw [List.length_take, List.length_zip, HQ.out]; omega
        have hz : (l0.zip l1).take (i + 1) = (l0.zip l1).take i ++ [(rd l0 (i : Int), rd l1 (i : Int))] := by
          have h1 : i < l1.length := by rw [HQ.out]; exact hi
          rw [List.take_succ_eq_append_getElem (by rw [List.length_zip]; omega)]
          simp [rd, hi, h1]
        have HZ := Aside0.mk hz
        have hi1 : (i : Int) < (l0.length : Int) := by omega
        have hi0 : (0 : Int) ≤ (i : Int) := Int.natCast_nonneg _
        generalize rd l0 (i : Int) = x at *
        generalize rd l1 (i : Int) = y at *
        generalize (l0.zip l1).take i = xs at *
        obtain ⟨A6, c6, e6⟩ := Kd.R_slice HO.out
        subst e6
        have HZL := Aside0.mk hzl
        clear hz hzl
        go_wp2_with fail
        go_region_held3 (fun w' => w'.cell? (ad0.add i) = some (.int .i64 x) ∧ w'.cell? (ad1.add i) = some (.int .i64 y)) (first | go_keep | (go_split_ands; exact ⟨pw_cell_below hb.out HW0.out, pw_cell_below hb.out HW1.out⟩)) ((refine Kd.R_append_step number_2.kd (W := wr.drew) (w0 := w) w.heap.size (by rfl) (.tmp 18) (.tmp 28) 80 81 (.agg #[.int .i64 0, .int .i64 0]) 16 (by rfl) Try.underlying80 part_Meet.info (by rfl) (by show 0 < 2; omega) (by omega) (.slice A6 xs.length c6) xs (x, y) [.int .i64 x, .int .i64 y] (fun _ => True) (fun _ => False) (by rfl) (by rfl) ⟨[.int .i64 x], [.int .i64 y], rfl, rfl, rfl⟩ (fun _ hk => hk.elim) (fun _ _ => trivial) (Kd.R_drew HO.out) (below_drew HB.out) HB.out.size (by rw [HZL.out]; omega) ?_; intro v1 w3 ho hb0 hg hat; have hb := Aside0.mk hb0; have HO3 := Aside0.mk ho; clear ho hb0 hg hat))
        have HB3 := hb
        rw [← HZ.out] at HO3
        clear hb
        go_wp2
        go_roundg (l0.length - (i + 1))
        case measure => have := HK.out; omega
        case rel => exact ⟨_, _, i + 1, rfl, rfl, ⟨rfl⟩, ⟨hi⟩, by go_num, HO3, HB3⟩
      · have hlt : decide ((i : Int) < (l0.length : Int)) = false := decide_eq_false (by omega)
        have hil : i = l0.length := by have := HI.out; omega
        have hzt : (l0.zip l1).take i = l0.zip l1 := List.take_of_length_le (by rw [List.length_zip, HQ.out]; omega)
        rw [hzt] at HO
        clear hzt
        obtain ⟨A6, c6, e6, hl6, hC6⟩ := Kd.R_reads HO.out
        subst e6
        have HC6 := Aside0.mk hC6
        clear hC6 hil
        generalize l0.zip l1 = z at *
        go_wp2_with (go_at_call 57; refine (number_2.calls A6 c6 z r _ HC6.out hl6 HN.out).mono ?_; rintro e w2 ⟨vb, rfl, hrow, hb2⟩)
        go_ret2
        exact ⟨_, rfl, Kd.R_lower hrow HB.out.size, HB.out.trans (hb2.mono HB.out.size)⟩
  · rw [if_neg he] at h
    have h' := Option.some.inj h
    obtain ⟨rfl, rfl⟩ : [] = r1 ∧ 1 = r2 := by injection h' with h1 h2; exact ⟨h1, h2⟩
    have hne : decide (l0.length = l1.length) = false := decide_eq_false he
    have hne1 : ((l0.length : Int) == (l1.length : Int)) = false := by simp; omega
    have hne2 : ((l0.length : Int) != (l1.length : Int)) = true := by simp; omega
    clear h h'
    go_enter Try.func13, Try.ntmps13
    go_wp2_with fail
    go_ret2
    exact ⟨_, rfl, Kd.R_nil _ _ _ _ _, Below.refl _ _⟩


/-! ### part_number_int: function 87 -/
def part_number_int.lit (x : Int) : Lit := .int .i64 x
def part_number_int.f (l0 : List Int) : Option (List Int) := if l0.length ≤ 1000000 then (if (l0.all fun x => (Lit.int .i64 x).wf) = true then some (Go.Proofs.Ytjlegibfeenglaa.XNumber.numF l0) else none) else none
theorem part_number_int.law : Go.Maps.Keyed Try.prog 3 := Go.Maps.int_keyed Try.underlying3
theorem part_number_int.zeroE (w : World) : (zeroValue 3).run Try.prog w = .ok (.int .i64 0) w := by kernel_rfl
/-- the loop's relation but for its slots -/
def part_number_int.Rel (W : World) (g i : Nat) (v : Value) (l0 : List Int) : Prop :=
  (∃ D : DataW Unit, W.ownsMap Try.prog 3 (plainElem Try.prog 3) g i D ∧ Go.Proofs.Ytjlegibfeenglaa.XNumber.Good part_number_int.lit (fun _ => True) D (Go.Proofs.Ytjlegibfeenglaa.XNumber.run (l0.take i)).1) ∧ Kd.R (Kd.int .i64) 3 W g (fun k => k ≠ g) v (Go.Proofs.Ytjlegibfeenglaa.XNumber.run (l0.take i)).2
set_option maxRecDepth 100000 in
set_option maxHeartbeats 2000000 in
theorem part_number_int.calls (A0 : Option Addr) (c0 : Nat) (l0 : List Int) (r : List Int) (w : World) (hr0 : Kd.C (Kd.int .i64) w A0 l0.length l0) (hc0 : l0.length ≤ c0) (h : part_number_int.f l0 = some r) :
    Calls Try.prog 87 #[.slice A0 l0.length c0] w fun e w' => ∃ v0_ : Value, e = .returned v0_ ∧ Kd.R (Kd.int .i64) 3 w' w.heap.size (fun _ => True) v0_ r ∧ Below w.heap.size w w' := by
  unfold part_number_int.f at h
  split at h
  case isFalse => cases h
  case isTrue hlen =>
  split at h
  case isFalse => cases h
  case isTrue hall =>
  have HRR := Aside0.mk (Option.some.inj h)
  have HWF := Aside0.mk (List.all_eq_true.1 hall)
  have HR := Aside0.mk hr0
  clear h hall hr0
  have hmm := @run_makeMap Try.prog
  go_enter Try.func87, Try.ntmps87
  go_wp2_with fail
  go_loopg [4, 12] l0.length (fun kq v4' v12 wr' => ∃ (v4 : Value) (wr : World) (i : Nat), v4 = v4' ∧ wr = wr' ∧ Aside0 (l0.length - i = kq) ∧ Aside0 (i ≤ l0.length) ∧ v12 = .int .i64 (i : Int) ∧ Aside0 (part_number_int.Rel wr w.heap.size i v4 l0) ∧ Aside0 (Below w.heap.size w wr))
  case atStart => exact ⟨_, _, 0, rfl, rfl, ⟨rfl⟩, ⟨Nat.zero_le _⟩, rfl, ⟨⟨⟨_, World.ownsMap_made _ _ _ _, Go.Proofs.Ytjlegibfeenglaa.XNumber.Good.empty _ _⟩, Kd.R_nil _ _ _ _ _⟩⟩, ⟨(Below.refl _ _).alloc (Nat.le_refl _) _⟩⟩
  case round =>
    obtain ⟨v4, wr, i, rfl, rfl, HK, HI, rfl, HREL, HB⟩ := hrel
    by_cases hi : i < l0.length
    · have hlt : decide ((i : Int) < (l0.length : Int)) = true := decide_eq_true (by omega)
      have hC := Kd.C_below HR.out HB.out
      obtain ⟨ad, e1, hx0⟩ := Kd.at_int hC (i : Int) (by omega) (by omega)
      subst e1
      rw [Int.toNat_natCast] at hx0
      have hmem : rd l0 (i : Int) ∈ l0 := by simp only [rd, Int.toNat_natCast, List.getD, List.getElem?_eq_getElem hi, Option.getD_some]; exact List.getElem_mem hi
      have hwf := HWF.out _ hmem
      have hst : Go.Proofs.Ytjlegibfeenglaa.XNumber.run (l0.take (i + 1)) = Go.Proofs.Ytjlegibfeenglaa.XNumber.step (Go.Proofs.Ytjlegibfeenglaa.XNumber.run (l0.take i)) (rd l0 (i : Int)) := by
        rw [List.take_succ_eq_append_getElem hi, Go.Proofs.Ytjlegibfeenglaa.XNumber.run_snoc]
        simp [rd, hi]
      have HST := Aside0.mk hst
      have hsl := Go.Proofs.Ytjlegibfeenglaa.XNumber.seen_length (l0.take i)
      have hnl := Go.Proofs.Ytjlegibfeenglaa.XNumber.numF_length (l0.take i)
      rw [List.length_take, Nat.min_eq_left (by omega)] at hsl hnl
      have hkey : Go.keyOf Try.prog 3 (.int .i64 (rd l0 (i : Int))) = some (.int .i64 (rd l0 (i : Int))) := Go.Maps.keyOf_int_mk Try.underlying3 hwf
      have HMEM := Aside0.mk hmem
      obtain ⟨⟨D, hD, hG⟩, hO⟩ := HREL.out
      unfold Go.Proofs.Ytjlegibfeenglaa.XNumber.numF at hnl
      generalize hrun : Go.Proofs.Ytjlegibfeenglaa.XNumber.run (l0.take i) = st at *
      obtain ⟨seen, nums⟩ := st
      have HRUN := Aside0.mk hrun
      replace hsl : seen.length ≤ i := hsl
      have HNL := Aside0.mk hnl
      have HO := Aside0.mk hO
      have HG := Aside0.mk hG
      have hgs : Go.Maps.size D = seen.length := HG.out.2.1
      have HGH := Aside0.mk (hG.2.2.1 (rd l0 (i : Int)) trivial)
      generalize hxx : rd l0 (i : Int) = x at *
      have HXX := Aside0.mk hxx
      clear hmem hC hst hrun hnl hO hG hxx HREL
      obtain ⟨A4, c4, e4⟩ := Kd.R_slice HO.out
      subst e4
      have hvl : nums.length ≤ 1000000 := by rw [HNL.out]; omega
      have hgl := Go.Proofs.Ytjlegibfeenglaa.XNumber.lt hD
      by_cases hin : x ∈ seen
      · have HHAS : Aside0 (Go.Maps.has D (.int .i64 x) = true) := ⟨HGH.out.trans (decide_eq_true hin)⟩
        have HAT : Aside0 (D.atKey (.int .i64 x) (.lit (.int .i64 0)) = .lit (.int .i64 (seen.idxOf x : Nat))) := ⟨(HG.out.2.2.2 x hin).2⟩
        have hstep : Aside0 (Go.Proofs.Ytjlegibfeenglaa.XNumber.run (l0.take (i + 1)) = (seen, nums ++ [(seen.idxOf x : Int)])) := ⟨by rw [HST.out]; simp [Go.Proofs.Ytjlegibfeenglaa.XNumber.step, hin]⟩
        clear hin hgs
        have HD := Aside0.mk hD
        go_wp2_with (first | (at_lookup; refine wpList_lookup_own_ok_int _ rfl _ _ 145 rfl 3 3 .i64 part_number_int.law Try.underlying145 Try.underlying3 (part_number_int.zeroE _) w.heap.size i D rfl hD _ _ rfl hkey ?_; intro c hat hwc; rw [HHAS.out]; obtain rfl : c = _ := Go.Proofs.Ytjlegibfeenglaa.XNumber.inj (hat.symm.trans HAT.out); clear hat) | ((with_reducible refine gate_builtin (b := .append) (xs := #[.tmp 29, .tmp 31]) rfl ?_); at_builtin; refine Kd.R_append (Kd.int .i64) (w0 := w) w.heap.size rfl (.tmp 29) (.tmp 31) 22 3 (.int .i64 0) 8 rfl Try.underlying22 info3 rfl (by decide) (by omega) (.slice A4 nums.length c4) nums (seen.idxOf x : Nat) [.int .i64 (seen.idxOf x : Nat)] (fun k => k ≠ w.heap.size) (fun _ => False) rfl rfl ?aP (fun _ hk => hk.elim) ?aF ?aO ?aB ?aS ?aL ?aK))
        case aP => exact rfl
        case aF => intro k hk e; omega
        case aO => exact HO.out
        case aB => exact HB.out
        case aS => exact HB.out.size
        case aL => omega
        case aK =>
          intro v1 w3 ho hb hg hat
          have hne : w3.heap[w.heap.size]? = wr.heap[w.heap.size]? := hg.block _ (Go.Proofs.Ytjlegibfeenglaa.XNumber.lt HD.out) (fun e => (HO.out.1 _ e.symm) rfl)
          have HREL2 : Aside0 (part_number_int.Rel w3 w.heap.size (i + 1) v1 l0) := ⟨⟨⟨D, (Go.Proofs.Ytjlegibfeenglaa.XNumber.stay HD.out hne).mono (Nat.le_succ _), by rw [hstep.out]; exact HG.out⟩, by rw [hstep.out]; exact ho⟩⟩
          have HB3 := Aside0.mk hb
          clear ho hb hg hat hne hD
          go_wp2
          go_roundg (l0.length - (i + 1))
          case measure => have := HK.out; omega
          case rel => exact ⟨_, _, i + 1, rfl, rfl, ⟨rfl⟩, ⟨hi⟩, by go_num, HREL2, HB3⟩
      · have HHAS : Aside0 (Go.Maps.has D (.int .i64 x) = false) := ⟨HGH.out.trans (decide_eq_false hin)⟩
        have hstep : Aside0 (Go.Proofs.Ytjlegibfeenglaa.XNumber.run (l0.take (i + 1)) = (seen ++ [x], nums ++ [(seen.length : Int)])) := ⟨by rw [HST.out]; simp [Go.Proofs.Ytjlegibfeenglaa.XNumber.step, hin]⟩
        have HG2 := Aside0.mk (HG.out.put (lit := part_number_int.lit) trivial trivial (fun a _ h => by injection h) hin)
        have HGS := Aside0.mk hgs
        have hwl : (Lit.int .i64 ((seen.length : Nat) : Int)).wf = true := WalkArith.wf_i64 (by omega)
        have HWL := Aside0.mk hwl
        clear hin hgs hwl
        have HD := Aside0.mk hD
        go_wp2_with (first | (at_lookup; refine wpList_lookup_own_ok_int _ rfl _ _ 145 rfl 3 3 .i64 part_number_int.law Try.underlying145 Try.underlying3 (part_number_int.zeroE _) w.heap.size i D rfl hD _ _ rfl hkey ?_; intro c hat hwc; rw [HHAS.out];  clear hat) | (at_len; refine wpList_len_own _ rfl _ 145 rfl 3 3 Try.underlying145 (plainElem Try.prog 3) w.heap.size i D rfl hD ?_; rw [HGS.out]) | (at_mapUpdate; refine wpList_mapUpdate_own _ rfl _ _ _ 145 rfl 3 3 part_number_int.law Try.underlying145 _ w.heap.size i _ rfl hD (by unfold maxLen; omega) _ _ _ rfl rfl hkey _ [] (plainElem_int Try.underlying3 HWL.out) ?_; intro w1 hown1 hgrow1) | ((with_reducible refine gate_builtin (b := .append) (xs := #[.tmp 29, .tmp 31]) rfl ?_); at_builtin; refine Kd.R_append (Kd.int .i64) (w0 := w) w.heap.size rfl (.tmp 29) (.tmp 31) 22 3 (.int .i64 0) 8 rfl Try.underlying22 info3 rfl (by decide) (by omega) (.slice A4 nums.length c4) nums (seen.length : Nat) [.int .i64 (seen.length : Nat)] (fun k => k ≠ w.heap.size) (fun _ => False) rfl rfl ?aP (fun _ hk => hk.elim) ?aF ?aO ?aB ?aS ?aL ?aK))
        case aP => exact rfl
        case aF => intro k hk e; have := hgrow1.size; omega
        case aO => exact Kd.R_grown HO.out hgrow1 (fun k hk e => hk (by injection e))
        case aB => exact HB.out.grown hgrow1 HB.out.size (fun j hj => by cases hj; exact Nat.le_refl _)
        case aS => exact Nat.le_trans HB.out.size hgrow1.size
        case aL => omega
        case aK =>
          intro v1 w3 ho hb hg hat
          have hO1 : Kd.R (Kd.int .i64) 3 w1 w.heap.size (fun k => k ≠ w.heap.size) (.slice A4 nums.length c4) nums := Kd.R_grown HO.out hgrow1 (fun k hk e => hk (by injection e))
          have hne : w3.heap[w.heap.size]? = w1.heap[w.heap.size]? := hg.block _ (Go.Proofs.Ytjlegibfeenglaa.XNumber.lt hown1) (fun e => (hO1.1 _ e.symm) rfl)
          have HREL2 : Aside0 (part_number_int.Rel w3 w.heap.size (i + 1) v1 l0) := ⟨⟨⟨_, Go.Proofs.Ytjlegibfeenglaa.XNumber.stay hown1 hne, by rw [hstep.out]; exact HG2.out⟩, by rw [hstep.out]; exact ho⟩⟩
          have HB3 := Aside0.mk hb
          clear ho hb hg hat hne hD hO1 hown1 hgrow1
          go_wp2
          go_roundg (l0.length - (i + 1))
          case measure => have := HK.out; omega
          case rel => exact ⟨_, _, i + 1, rfl, rfl, ⟨rfl⟩, ⟨hi⟩, by go_num, HREL2, HB3⟩
    · have hlt : decide ((i : Int) < (l0.length : Int)) = false := decide_eq_false (by omega)
      have hil : i = l0.length := by have := HI.out; omega
      have HO := Aside0.mk HREL.out.2
      rw [hil, List.take_length] at HO
      have HRR2 : Aside0 ((Go.Proofs.Ytjlegibfeenglaa.XNumber.run l0).2 = r) := HRR
      rw [HRR2.out] at HO
      go_wp2_with fail
      go_ret
      exact ⟨_, rfl, Kd.R_mono HO.out (fun _ _ => trivial), HB.out⟩


/-! ### part_Plain: function 55 -/
def part_Plain.f (l0 : List Int) : Option (List Int) := (part_number_int.f l0).bind fun t101 => (some t101)
set_option maxHeartbeats 8000000 in
set_option maxRecDepth 100000 in
theorem part_Plain.calls (A0 : Option Addr) (c0 : Nat) (l0 : List Int) (r : List Int) (w : World) (hr0 : Kd.C (Kd.int .i64) w A0 l0.length l0) (hc0 : l0.length ≤ c0) (h : part_Plain.f l0 = some r) :
    Calls Try.prog 55 #[.slice A0 l0.length c0] w fun e w' => ∃ v0_ : Value, e = .returned (v0_) ∧ Kd.R (Kd.int .i64) 3 w' w.heap.size (fun _ => True) v0_ r ∧ Below w.heap.size w w' := by
  have HR0 := Aside0.mk hr0
  have HC0 := Aside0.mk hc0
  clear hr0 hc0
  have HB := Aside0.mk (Below.refl w.heap.size w)
  have H : ((part_number_int.f l0).bind fun t101 => (some t101)) = some r := h
  clear h
  replace H := Option.bind_eq_some_iff.mp H
  obtain ⟨t101, A20, H⟩ := H
  replace H : (some t101) = some r := H
  have A2 := Aside0.mk A20
  clear A20
  obtain rfl := Option.some.inj H
  go_enter Try.func55, Try.ntmps55
  go_wp2_with (first | ((with_reducible refine gate_callee (f := 87) rfl ?_); refine goesL_ (some 4) rfl rfl Try.func87 (by kernel_rfl) rfl #[.slice A0 l0.length c0] rfl (by (try simp only [List.map_toArray, List.map_cons, List.map_nil]); first | done | rfl | (simp only [List.length_drop, List.length_take]; rfl)) ?_; (with_reducible refine (part_number_int.calls _ _ l0 t101 _ ?side1 ?side2 A2.out).mono ?_); (case side1 => repeat (first | exact HR0.out | (with_reducible refine Kd.C_alloc ?_ _) | (with_reducible refine Kd.C_drewN ?_ _) | (with_reducible refine Kd.C_drew ?_))); (case side2 => exact HC0.out); rintro e w3 ⟨v102, rfl, ho0, hb⟩; refine ⟨_, rfl, ?_⟩; have n0_ := Aside0.mk (Kd.R_lower ho0 (below_size (by repeat (first | (with_reducible first | exact HB.out | apply below_alloc | apply pw_below_drewN | apply below_drew1) | exact HB.out)))); have n1_ := Aside0.mk (below_step (by repeat (first | (with_reducible first | exact HB.out | apply below_alloc | apply pw_below_drewN | apply below_drew1) | exact HB.out)) hb); clear HB; have HO103 := n0_; have HB := n1_; clear n0_ n1_; (try clear hb); (try clear hb2); (try clear hk); (try clear hi); (try clear ho0)))
  go_ret
  exact ⟨_, by first | rfl | (simp [errW_none, errW_some] <;> rfl) | (simp [*, errW_none, errW_some] <;> rfl), by (with_reducible repeat (first | apply Kd.R_alloc | apply Kd.R_drewN | apply Kd.R_drew)); exact HO103.out, by repeat (first | (with_reducible first | exact HB.out | apply below_alloc | apply pw_below_drewN | apply below_drew1) | exact HB.out)⟩

/-! ### part_Blocks: function 54 -/
def part_Blocks.l0 : Nat → List (List Int) → List Int → Int → Int → Option ((List (List Int)))
  | 0, _, _, _, _ => none
  | k + 1, x3, x7, x8, x9 => if x9 < x8 then (if 0 ≤ x9 then (if x9 < (x7.length : Int) then (if (rd x7 x9) = (x3.length : Int) then (if x3.length < 5864062014805 then ((some (x3 ++ [[]] : List (List Int))).bind fun y108 => (if 0 ≤ (rd x7 x9) then (if (rd x7 x9) < (y108.length : Int) then (if (rd_L1 y108 (rd x7 x9)).length < 17592186044416 then (part_Blocks.l0 k (y108.set ((rd x7 x9) : Int).toNat ((rd_L1 y108 (rd x7 x9)) ++ [x9])) x7 x8 (wrap64 (x9 + 1))) else (none)) else (none)) else (none))) else (none)) else (if 0 ≤ (rd x7 x9) then (if (rd x7 x9) < (x3.length : Int) then (if (rd_L1 x3 (rd x7 x9)).length < 17592186044416 then (part_Blocks.l0 k (x3.set ((rd x7 x9) : Int).toNat ((rd_L1 x3 (rd x7 x9)) ++ [x9])) x7 x8 (wrap64 (x9 + 1))) else (none)) else (none)) else (none))) else (none)) else (none)) else (some x3)
def part_Blocks.f (k : Nat) (l0 : List Int) : Option ((List (List Int))) := (part_Plain.f l0).bind fun t104 => (part_Blocks.l0 k ([] : List (List Int)) t104 (t104.length : Int) 0)
theorem part_Blocks.mono_l : ∀ k, (∀ y0 y1 y2 y3, LeO (part_Blocks.l0 k y0 y1 y2 y3) (part_Blocks.l0 (k + 1) y0 y1 y2 y3))
  | 0 => fun _ _ _ _ r h => by simp [part_Blocks.l0] at h
  | k + 1 => by
    have ih0 := part_Blocks.mono_l k
    · intro y0 y1 y2 y3
      unfold part_Blocks.l0
      repeat' first
      | (with_reducible exact ih0 _ _ _ _)
      | (with_reducible exact LeO.refl _)
      | (with_reducible exact LeO.none _)
      | (with_reducible refine LeO.ite ?_ ?_)
      | (with_reducible refine LeO.bind ?_ (fun _ => ?_))
      | exact ih0 _ _ _ _
      | exact LeO.none _
      | refine LeO.ite ?_ ?_
      | refine LeO.bind ?_ (fun _ => ?_)
theorem part_Blocks.mono : ∀ a0 k, LeO (part_Blocks.f k a0) (part_Blocks.f (k + 1) a0) := by
  intro a0 k
  have ih0 := part_Blocks.mono_l k
  unfold part_Blocks.f
  repeat' first
      | (with_reducible exact ih0 _ _ _ _)
      | (with_reducible exact LeO.refl _)
      | (with_reducible exact LeO.none _)
      | (with_reducible refine LeO.ite ?_ ?_)
      | (with_reducible refine LeO.bind ?_ (fun _ => ?_))
      | exact ih0 _ _ _ _
      | exact LeO.none _
      | refine LeO.ite ?_ ?_
      | refine LeO.bind ?_ (fun _ => ?_)
set_option maxHeartbeats 8000000 in
set_option maxRecDepth 100000 in
theorem part_Blocks.calls (k : Nat) (A0 : Option Addr) (c0 : Nat) (l0 : List Int) (r : List (List Int)) (w : World) (hr0 : Kd.C (Kd.int .i64) w A0 l0.length l0) (hc0 : l0.length ≤ c0) (h : part_Blocks.f k l0 = some r) :
    Calls Try.prog 54 #[.slice A0 l0.length c0] w fun e w' => ∃ v0_ : Value, e = .returned (v0_) ∧ Kd.S (Kd.slice 3 (Kd.int .i64)) 22 w' w.heap.size (fun _ => True) v0_ r ∧ Below w.heap.size w w' := by
  have HR0 := Aside0.mk hr0
  have HC0 := Aside0.mk hc0
  clear hr0 hc0
  have HB := Aside0.mk (Below.refl w.heap.size w)
  have H : ((part_Plain.f l0).bind fun t104 => (part_Blocks.l0 k ([] : List (List Int)) t104 (t104.length : Int) 0)) = some r := h
  clear h
  replace H := Option.bind_eq_some_iff.mp H
  obtain ⟨t104, A20, H⟩ := H
  replace H : (part_Blocks.l0 k ([] : List (List Int)) t104 (t104.length : Int) 0) = some r := H
  have A2 := Aside0.mk A20
  clear A20
  have H' := Aside0.mk H
  clear H
  go_enter Try.func54, Try.ntmps54
  go_wp2_with (first | ((with_reducible refine gate_callee (f := 55) rfl ?_); refine goesL_ (some 7) rfl rfl Try.func55 (by kernel_rfl) rfl #[.slice A0 l0.length c0] rfl (by (try simp only [List.map_toArray, List.map_cons, List.map_nil]); first | done | rfl | (simp only [List.length_drop, List.length_take]; rfl)) ?_; (with_reducible refine (part_Plain.calls _ _ l0 t104 _ ?side1 ?side2 A2.out).mono ?_); (case side1 => repeat (first | exact HR0.out | (with_reducible refine Kd.C_alloc ?_ _) | (with_reducible refine Kd.C_drewN ?_ _) | (with_reducible refine Kd.C_drew ?_))); (case side2 => exact HC0.out); rintro e w3 ⟨v105, rfl, ho0, hb⟩; refine ⟨_, rfl, ?_⟩; have n0_ := Aside0.mk (Kd.R_lower ho0 (below_size (by repeat (first | (with_reducible first | exact HB.out | apply below_alloc | apply pw_below_drewN | apply below_drew1) | exact HB.out)))); have n1_ := Aside0.mk (below_step (by repeat (first | (with_reducible first | exact HB.out | apply below_alloc | apply pw_below_drewN | apply below_drew1) | exact HB.out)) hb); clear HB; have HO106 := n0_; have HB := n1_; clear n0_ n1_; (try clear hb); (try clear hb2); (try clear hk); (try clear hi); (try clear ho0); obtain ⟨Ao4, co4, eo4⟩ := Kd.R_slice HO106.out; subst eo4))
  go_loopg [3, 9] k (fun kq v3 v9 w' => ∃ (x3_1 : List (List Int)) (x9_1 : Int), v9 = .int .i64 x9_1 ∧ Aside0 (part_Blocks.l0 kq x3_1 t104 (t104.length : Int) x9_1 = some r) ∧ Aside0 (kq ≤ k) ∧ Aside0 (Kd.S (Kd.slice 3 (Kd.int .i64)) 22 w' w.heap.size (fun k_ => some k_ ≠ ((.slice Ao4 t104.length co4) : Value).ownBlock) v3 x3_1) ∧ Aside0 (Kd.R (Kd.int .i64) 3 w' w.heap.size (fun _ => True) (.slice Ao4 t104.length co4) t104) ∧ Aside0 (Below w.heap.size w w'))
  case atStart => exact ⟨(([] : List (List Int))), (0), (by first | rfl | (simp; done) | (simp [*]; done)), H', ⟨Nat.le_refl _⟩, ⟨by first | exact Kd.S_nil _ _ _ _ _ | exact Kd.N_nil _ _ _ _ _ | exact Kd.V_nil _ _ _ _ _ | exact Kd.Q_nil _ _ _ _ _ | exact Kd.R_nil _ _ _ _ _⟩, ⟨by (with_reducible repeat (first | apply Kd.R_alloc | apply Kd.R_drewN | apply Kd.R_drew)); exact HO106.out⟩, ⟨by repeat (first | (with_reducible first | exact HB.out | apply below_alloc | apply pw_below_drewN | apply below_drew1) | exact HB.out)⟩⟩
  case round =>
    clear H'
    try clear p2
    obtain ⟨x3_1, x9_1, rfl, HA, HK1, HO_3, HO_7, HB⟩ := hrel
    cases gk with
    | zero => exact absurd HA.out (by simp [part_Blocks.l0])
    | succ k1 =>
      have H := HA.out
      clear HA
      simp only [part_Blocks.l0] at H
      by_cases c5 : x9_1 < (t104.length : Int)
      · rw [if_pos c5] at H
        have c5b0 : decide (x9_1 < (t104.length : Int)) = true := decide_eq_true c5
        clear c5
        by_cases c6 : 0 ≤ x9_1
        · rw [if_pos c6] at H
          have c6b0 : decide (0 ≤ x9_1) = true := decide_eq_true c6
          clear c6
          by_cases c7 : x9_1 < (t104.length : Int)
          · rw [if_pos c7] at H
            have c7b0 : decide (x9_1 < (t104.length : Int)) = true := decide_eq_true c7
            clear c7
            by_cases c8 : (rd t104 x9_1) = (x3_1.length : Int)
            · rw [if_pos c8] at H
              have c8b0 : ((rd t104 x9_1) == (x3_1.length : Int)) = true := beq_iff_eq.mpr c8
              have c8b1 : ((rd t104 x9_1) != (x3_1.length : Int)) = false := bne_eq_false_iff_eq.mpr c8
              clear c8
              by_cases c9 : x3_1.length < 5864062014805
              · rw [if_pos c9] at H
                have LMc9 := Aside0.mk c9
                clear c9
                obtain ⟨y108, hy108⟩ : ∃ y_ : List (List Int), y_ = (x3_1 ++ [[]]) := ⟨_, rfl⟩
                replace H : (if 0 ≤ (rd t104 x9_1) then (if (rd t104 x9_1) < (y108.length : Int) then (if (rd_L1 y108 (rd t104 x9_1)).length < 17592186044416 then (part_Blocks.l0 k1 (y108.set ((rd t104 x9_1) : Int).toNat ((rd_L1 y108 (rd t104 x9_1)) ++ [x9_1])) t104 (t104.length : Int) (wrap64 (x9_1 + 1))) else (none)) else (none)) else (none)) = some r := by first | (rw [hy108]; with_reducible exact H) | (have H2_ := (Option.bind_some _ _).symm.trans H; rw [hy108]; with_reducible exact H2_) | (have H2_ := (Option.bind_some _ _).symm.trans H; with_reducible exact H2_) | with_reducible exact H | (rw [hy108]; exact H) | exact H
                have Ny108 := Aside0.mk hy108
                clear hy108
                by_cases c10 : 0 ≤ (rd t104 x9_1)
                · rw [if_pos c10] at H
                  have c10b0 : decide (0 ≤ (rd t104 x9_1)) = true := decide_eq_true c10
                  clear c10
                  by_cases c11 : (rd t104 x9_1) < (y108.length : Int)
                  · rw [if_pos c11] at H
                    have c11b0 : decide ((rd t104 x9_1) < (y108.length : Int)) = true := decide_eq_true c11
                    clear c11
                    by_cases c12 : (rd_L1 y108 (rd t104 x9_1)).length < 17592186044416
                    · rw [if_pos c12] at H
                      have LMc12 := Aside0.mk c12
                      clear c12
                      obtain ⟨y112, hy112⟩ : ∃ y_ : List Int, y_ = ((rd_L1 y108 (rd t104 x9_1)) ++ [x9_1]) := ⟨_, rfl⟩
                      replace H : (part_Blocks.l0 k1 (y108.set ((rd t104 x9_1) : Int).toNat y112) t104 (t104.length : Int) (wrap64 (x9_1 + 1))) = some r := by first | (rw [hy112]; with_reducible exact H) | (have H2_ := (Option.bind_some _ _).symm.trans H; rw [hy112]; with_reducible exact H2_) | (have H2_ := (Option.bind_some _ _).symm.trans H; with_reducible exact H2_) | with_reducible exact H | (rw [hy112]; exact H) | exact H
                      have Ny112 := Aside0.mk hy112
                      clear hy112
                      obtain ⟨y115, hy115⟩ : ∃ y_ : List (List Int), y_ = (y108.set ((rd t104 x9_1) : Int).toNat y112) := ⟨_, rfl⟩
                      replace H : (part_Blocks.l0 k1 y115 t104 (t104.length : Int) (wrap64 (x9_1 + 1))) = some r := by first | (rw [hy115]; with_reducible exact H) | (have H2_ := (Option.bind_some _ _).symm.trans H; rw [hy115]; with_reducible exact H2_) | (have H2_ := (Option.bind_some _ _).symm.trans H; with_reducible exact H2_) | with_reducible exact H | (rw [hy115]; exact H) | exact H
                      have Ny115 := Aside0.mk hy115
                      clear hy115
                      have H' := Aside0.mk H
                      clear H
                      have p107 : 0 ≤ (x9_1 : Int) := of_decide_eq_true (by first | (with_reducible assumption) | assumption)
                      have q107 : x9_1 < (t104.length : Int) := of_decide_eq_true (by first | (with_reducible assumption) | assumption)
                      obtain ⟨ad107, e107, hx107_0⟩ := Kd.at_int (Kd.R_reads' HO_7.out).2.2 x9_1 p107 q107
                      cases e107
                      replace p107 := eq_true p107
                      replace q107 := eq_true q107
                      obtain ⟨Ao14, co14, eo14⟩ := Kd.S_slice HO_3.out
                      subst eo14
                      go_wp2_with (first | ((with_reducible refine gate_builtin (b := .append) (xs := #[.tmp 18, .tmp 19]) rfl ?_); at_builtin; refine Kd.S_append (Kd.slice 3 (Kd.int .i64)) (w0 := w) w.heap.size rfl (.tmp 18) (.tmp 19) 76 22 (.slice none 0 0) 24 rfl Try.underlying76 info22 rfl (by decide) (by omega) (.slice Ao14 x3_1.length co14) x3_1 [] [.slice none 0 0] (fun k_ => some k_ ≠ (.slice (some ad107) t104.length co4 : Value).ownBlock) (fun _ => False) rfl rfl ?aP (fun _ hk => hk.elim) ?aF ?aO ?aB ?aS ?aL ?_; (case aP => exact ⟨_, rfl, Kd.R_nil _ _ _ _ _⟩); (case aB => exact (by repeat (first | (with_reducible first | exact HB.out | apply below_alloc | apply pw_below_drewN | apply below_drew1) | exact HB.out))); (case aF => exact (fun k_ hk => Kd.fresh' (Kd.R_lt (by (with_reducible repeat (first | apply Kd.R_alloc | apply Kd.R_drewN | apply Kd.R_drew)); exact HO_7.out)) k_ hk)); (case aO => exact (by (with_reducible repeat (first | apply Kd.S_alloc | apply Kd.S_drewN | apply Kd.S_drew)); exact Kd.S_mono HO_3.out (fun k_ hk => ⟨hk, fun e_ => e_⟩))); (case aS => exact (below_size (by repeat (first | (with_reducible first | exact HB.out | apply below_alloc | apply pw_below_drewN | apply below_drew1) | exact HB.out)))); (case aL => have := LMc9.out; omega); intro v109 w15 ho hb hg hat; rw [← Ny108.out] at ho; have n0_ := Aside0.mk (Kd.R_over' (by (with_reducible repeat (first | apply Kd.R_alloc | apply Kd.R_drewN | apply Kd.R_drew)); exact HO_7.out) (Kd.S_typed (by (with_reducible repeat (first | apply Kd.S_alloc | apply Kd.S_drewN | apply Kd.S_drew)); exact HO_3.out)) (by decide) hg); have n1_ := Aside0.mk (hb); have n2_ := Aside0.mk (ho); clear HO_7; clear HB; clear HO_3; have HO_7 := n0_; have HB := n1_; have HO110 := n2_; clear n0_ n1_ n2_; clear ho hb hg hat; obtain ⟨Ao16, co16, eo16⟩ := Kd.S_slice HO110.out; subst eo16; have p111 : 0 ≤ ((rd t104 x9_1) : Int) := of_decide_eq_true (by first | (with_reducible assumption) | assumption); have q111 : (rd t104 x9_1) < (y108.length : Int) := of_decide_eq_true (by first | (with_reducible assumption) | assumption); obtain ⟨ad111, A111_0, c111_0, e111, hx111_0, hl111_0, hi111_0⟩ := at_L1 (Kd.S_reads' HO110.out).2.2 (rd t104 x9_1) p111 q111; cases e111; obtain ⟨ce111, hce111, hMe111, hcc111⟩ := Kd.S_get HO110.out [] (rd t104 x9_1) p111 (by first | exact q111 | exact of_decide_eq_true (by first | (with_reducible assumption) | assumption) | (have e_ := (Kd.S_reads' HO110.out).1; omega)); obtain ⟨ve111_0, rfl, ge111_0⟩ := hMe111; have hv111_0 := hcc111 0 _ rfl; rw [Nat.add_zero, show ((Kd.slice 3 (Kd.int .i64))).sz = 1 from rfl, Nat.mul_one] at hv111_0; replace hv111_0 := Option.some.inj (hv111_0.symm.trans hx111_0); rw [hv111_0] at ge111_0; have HL111_0 := Aside0.mk (show Kd.R (Kd.int .i64) 3 _ _ _ _ (rd_L1 y108 (rd t104 x9_1)) from ge111_0); clear hv111_0 ge111_0; have HX111_0 := Aside0.mk hx111_0; clear hcc111 hce111; have HR111_0 := Aside0.mk hi111_0; have HC111_0 := Aside0.mk hl111_0; clear hi111_0 hl111_0; replace p111 := eq_true p111; replace q111 := eq_true q111; obtain ⟨go17, co17, eo17, gb17, gl17, cl17, HG17⟩ := Kd.S_form HO110.out (by have h_ : ((rd t104 x9_1) : Int) < ((y108.length : Int) : Int) := of_decide_eq_true (by first | (with_reducible assumption) | assumption); have h2_ : 0 ≤ ((rd t104 x9_1) : Int) := (of_decide_eq_true (by first | (with_reducible assumption) | assumption)); omega); (first | cases eo17 | (injection eo17 with ea_ en_ ec_; (first | subst ea_ | (injection ea_ with ea_; subst ea_)); subst ec_; clear en_)); have GB17 := Aside0.mk gb17; have GG17 := Aside0.mk HG17; clear gb17 gl17 HG17; (first | simp only [add_plain] at hx111_0 | skip); obtain ⟨oki17, ce17, hcl17, hM17, hcc17, _, _, hH17⟩ := Kd.S_elem HO110.out [] ((rd t104 x9_1) : Int) (of_decide_eq_true (by first | (with_reducible assumption) | assumption)) (by have h_ : ((rd t104 x9_1) : Int) < ((y108.length : Int) : Int) := of_decide_eq_true (by first | (with_reducible assumption) | assumption); first | exact h_ | (have e_ := (Kd.S_reads' HO110.out).1; omega) | simpa using h_); obtain ⟨ve17_0, rfl, ge17_0⟩ := hM17; have hv17 := hcc17 0 _ rfl; have hX17 := HX111_0.out; (try simp only [add_plain] at hX17); (try simp only [Nat.add_zero] at hv17); (try rw [show ((Kd.slice 3 (Kd.int .i64))).sz = 1 from rfl, Nat.mul_one] at hv17); replace hv17 := Option.some.inj (hv17.symm.trans hX17); subst hv17; clear hX17 hcc17 hcl17; have UU17 := Aside0.mk (show Kd.R (Kd.int .i64) 3 _ w.heap.size oki17 (.slice A111_0 (rd_L1 y108 (rd t104 x9_1)).length c111_0) (rd_L1 y108 (rd t104 x9_1)) from ge17_0); have HH17 := Aside0.mk hH17; have HN17 := Aside0.mk (Kd.S_reads' HO110.out).1; clear hH17 ge17_0) | ((with_reducible refine gate_builtin (b := .append) (xs := #[.tmp 26, .tmp 28]) rfl ?_); at_builtin; refine Kd.R_append (Kd.int .i64) (w0 := w) w.heap.size rfl (.tmp 26) (.tmp 28) 22 3 (.int .i64 0) 8 rfl Try.underlying22 info3 rfl (by decide) (by omega) (.slice A111_0 (rd_L1 y108 (rd t104 x9_1)).length c111_0) (rd_L1 y108 (rd t104 x9_1)) x9_1 [.int .i64 x9_1] (fun k_ => oki17 k_ ∨ ((fun k_ => some k_ ≠ (.slice (some ad107) t104.length co4 : Value).ownBlock)) k_ ∧ w15.heap.size ≤ k_) (fun _ => False) rfl rfl ?aP (fun _ hk => hk.elim) ?aF ?aO ?aB ?aS ?aL ?_; (case aP => exact rfl); (case aB => exact (by repeat (first | (with_reducible first | exact HB.out | apply below_alloc | apply pw_below_drewN | apply below_drew1) | exact HB.out))); (case aF => exact (fun k_ hk => .inr ⟨Kd.fresh' (Kd.R_lt (by (with_reducible repeat (first | apply Kd.R_alloc | apply Kd.R_drewN | apply Kd.R_drew)); exact HO_7.out)) k_ hk, hk⟩)); (case aO => exact (by (with_reducible repeat (first | apply Kd.R_alloc | apply Kd.R_drewN | apply Kd.R_drew)); exact Kd.R_mono UU17.out (fun _ hk => .inl hk))); (case aS => exact (below_size (by repeat (first | (with_reducible first | exact HB.out | apply below_alloc | apply pw_below_drewN | apply below_drew1) | exact HB.out)))); (case aL => have := LMc12.out; omega); intro v113 w18 ho hb hg hat; rw [← Ny112.out] at ho; have n0_ := Aside0.mk (Kd.R_grown2 (by (with_reducible repeat (first | apply Kd.R_alloc | apply Kd.R_drewN | apply Kd.R_drew)); exact HO_7.out) rfl hg (fun k_ e_ => (HL111_0.out.1 k_ e_).1)); have n1_ := Aside0.mk (hb); have n2_ := Aside0.mk (Kd.H_grown (Kd.H_widen (by repeat (first | exact HH17.out | refine Kd.H_alloc ?_ _ | refine Kd.H_drewN ?_ _ | refine Kd.H_drew ?_))) hg (fun k_ e_ => .inl (UU17.out.1 k_ e_))); have n3_ := Aside0.mk (ho); clear HO_7; clear HB; clear HH17; clear HO110; clear UU17; clear HL111_0; have HO_7 := n0_; have HB := n1_; have HH17 := n2_; have HO114 := n3_; clear n0_ n1_ n2_ n3_; clear ho hb hg hat; have p13 : 0 ≤ ((rd t104 x9_1) : Int) := of_decide_eq_true (by first | (with_reducible assumption) | assumption); have q13 : ((rd t104 x9_1) : Int) < ((y108.length : Int) : Int) := of_decide_eq_true (by first | (with_reducible assumption) | assumption); replace p13 := eq_true p13; replace q13 := eq_true q13; obtain ⟨Ao21, co21, eo21⟩ := Kd.R_slice HO114.out; subst eo21; obtain ⟨_, _, hraw19, _, _, hcc19, _⟩ := Kd.H_raw HH17.out (of_decide_eq_true (by first | (with_reducible assumption) | assumption)) (by have h_ : ((rd t104 x9_1) : Int) < ((y108.length : Int) : Int) := of_decide_eq_true (by first | (with_reducible assumption) | assumption); first | exact h_ | (have e_ := (HN17.out); omega) | simpa using h_); obtain ⟨_, hfr19⟩ := Kd.H_at HH17.out (of_decide_eq_true (by first | (with_reducible assumption) | assumption)) (by have h_ : ((rd t104 x9_1) : Int) < ((y108.length : Int) : Int) := of_decide_eq_true (by first | (with_reducible assumption) | assumption); first | exact h_ | (have e_ := (HN17.out); omega) | simpa using h_); have hx19_0 := hcc19 0 _ rfl; have hf19_0 := hfr19 0; (try simp only [Nat.add_zero] at hx19_0 hf19_0); (try rw [show ((Kd.slice 3 (Kd.int .i64))).sz = 1 from rfl, Nat.mul_one] at hx19_0); (try rw [show ((Kd.slice 3 (Kd.int .i64))).sz = 1 from rfl, Nat.mul_one] at hf19_0); have HP19 := Kd.S_seg0 HH17.out (of_decide_eq_true (by first | (with_reducible assumption) | assumption)) (by have h_ : ((rd t104 x9_1) : Int) < ((y108.length : Int) : Int) := of_decide_eq_true (by first | (with_reducible assumption) | assumption); first | exact h_ | (have e_ := (HN17.out); omega) | simpa using h_) (seg := [.slice Ao21 y112.length co21]) (j := 0) (show 1 ≤ 1 from by decide) (x' := y112) (Kd.M_row HO114.out) (fun _ hk => hk); (try simp only [show ((Kd.slice 3 (Kd.int .i64))).sz = 1 from rfl, Nat.mul_one, Nat.add_zero] at HP19); clear hcc19 hfr19) | ((with_reducible refine gate_store (t := 22) (p := 30) rfl ?_); refine store_event (t := 22) (p := 30) (v := ?vo_w20) (w1 := (w18.setCell ⟨go17, ((rd t104 x9_1) : Int).toNat, none⟩ (.slice Ao21 y112.length co21))) ?hg ?ho ?hn ?hr ?_; (case ho => rfl); (case hg => rfl); (case hn => rfl); (case hr => first | (go_simp; done) | (go_simp; rfl)); intro w20 hw; have hg : w18.grownBy w20 (some go17) := (by rw [hw]; exact HP19.2); have hp_ : Kd.S (Kd.slice 3 (Kd.int .i64)) 22 w20 w.heap.size (fun k_ => some k_ ≠ (.slice (some ad107) t104.length co4 : Value).ownBlock) (.slice (some ⟨go17, 0, none⟩) y108.length co16) y115 := (by rw [hw, Ny115.out]; exact HP19.1); clear HP19; have n0_ := Aside0.mk (Kd.R_over' (v := (.slice (some ⟨go17, 0, none⟩) y108.length co16)) (by (with_reducible repeat (first | apply Kd.R_alloc | apply Kd.R_drewN | apply Kd.R_drew)); exact HO_7.out) (Kd.R_typed hraw19) (by decide) hg); have n1_ := Aside0.mk ((by rw [hw]; exact below_set HB.out GB17.out : Below w.heap.size w w20)); have n2_ := Aside0.mk (hp_); clear HO_7; clear HB; clear HO114; clear HH17; have HO_7 := n0_; have HB := n1_; have HO110 := n2_; clear n0_ n1_ n2_; clear hg hw hp_ hraw19))
                      go_roundg k1
                      case measure => have := HK1.out; omega
                      case rel => exact ⟨(y115), (wrap64 (x9_1 + 1)), (by first | rfl | (simp; done) | (simp [*]; done)), H', ⟨by have := HK1.out; omega⟩, ⟨by (with_reducible repeat (first | apply Kd.S_alloc | apply Kd.S_drewN | apply Kd.S_drew)); exact HO110.out⟩, ⟨by (with_reducible repeat (first | apply Kd.R_alloc | apply Kd.R_drewN | apply Kd.R_drew)); exact HO_7.out⟩, ⟨by repeat (first | (with_reducible first | exact HB.out | apply below_alloc | apply pw_below_drewN | apply below_drew1) | exact HB.out)⟩⟩
                    · rw [if_neg c12] at H
                      exact absurd H (by simp)
                  · rw [if_neg c11] at H
                    exact absurd H (by simp)
                · rw [if_neg c10] at H
                  exact absurd H (by simp)
              · rw [if_neg c9] at H
                exact absurd H (by simp)
            · rw [if_neg c8] at H
              have c8b0 : ((rd t104 x9_1) == (x3_1.length : Int)) = false := beq_eq_false_iff_ne.mpr c8
              have c8b1 : ((rd t104 x9_1) != (x3_1.length : Int)) = true := bne_iff_ne.mpr c8
              by_cases c22 : 0 ≤ (rd t104 x9_1)
              · rw [if_pos c22] at H
                have c22b0 : decide (0 ≤ (rd t104 x9_1)) = true := decide_eq_true c22
                clear c22
                by_cases c23 : (rd t104 x9_1) < (x3_1.length : Int)
                · rw [if_pos c23] at H
                  have c23b0 : decide ((rd t104 x9_1) < (x3_1.length : Int)) = true := decide_eq_true c23
                  clear c23
                  by_cases c24 : (rd_L1 x3_1 (rd t104 x9_1)).length < 17592186044416
                  · rw [if_pos c24] at H
                    have LMc24 := Aside0.mk c24
                    clear c24
                    obtain ⟨y117, hy117⟩ : ∃ y_ : List Int, y_ = ((rd_L1 x3_1 (rd t104 x9_1)) ++ [x9_1]) := ⟨_, rfl⟩
                    replace H : (part_Blocks.l0 k1 (x3_1.set ((rd t104 x9_1) : Int).toNat y117) t104 (t104.length : Int) (wrap64 (x9_1 + 1))) = some r := by first | (rw [hy117]; with_reducible exact H) | (have H2_ := (Option.bind_some _ _).symm.trans H; rw [hy117]; with_reducible exact H2_) | (have H2_ := (Option.bind_some _ _).symm.trans H; with_reducible exact H2_) | with_reducible exact H | (rw [hy117]; exact H) | exact H
                    have Ny117 := Aside0.mk hy117
                    clear hy117
                    obtain ⟨y120, hy120⟩ : ∃ y_ : List (List Int), y_ = (x3_1.set ((rd t104 x9_1) : Int).toNat y117) := ⟨_, rfl⟩
                    replace H : (part_Blocks.l0 k1 y120 t104 (t104.length : Int) (wrap64 (x9_1 + 1))) = some r := by first | (rw [hy120]; with_reducible exact H) | (have H2_ := (Option.bind_some _ _).symm.trans H; rw [hy120]; with_reducible exact H2_) | (have H2_ := (Option.bind_some _ _).symm.trans H; with_reducible exact H2_) | with_reducible exact H | (rw [hy120]; exact H) | exact H
                    have Ny120 := Aside0.mk hy120
                    clear hy120
                    have H' := Aside0.mk H
                    clear H
                    have p107 : 0 ≤ (x9_1 : Int) := of_decide_eq_true (by first | (with_reducible assumption) | assumption)
                    have q107 : x9_1 < (t104.length : Int) := of_decide_eq_true (by first | (with_reducible assumption) | assumption)
                    obtain ⟨ad107, e107, hx107_0⟩ := Kd.at_int (Kd.R_reads' HO_7.out).2.2 x9_1 p107 q107
                    cases e107
                    replace p107 := eq_true p107
                    replace q107 := eq_true q107
                    obtain ⟨Ao26, co26, eo26⟩ := Kd.S_slice HO_3.out
                    subst eo26
                    have p116 : 0 ≤ ((rd t104 x9_1) : Int) := of_decide_eq_true (by first | (with_reducible assumption) | assumption)
                    have q116 : (rd t104 x9_1) < (x3_1.length : Int) := of_decide_eq_true (by first | (with_reducible assumption) | assumption)
                    obtain ⟨ad116, A116_0, c116_0, e116, hx116_0, hl116_0, hi116_0⟩ := at_L1 (Kd.S_reads' HO_3.out).2.2 (rd t104 x9_1) p116 q116
                    cases e116
                    obtain ⟨ce116, hce116, hMe116, hcc116⟩ := Kd.S_get HO_3.out [] (rd t104 x9_1) p116 (by first | exact q116 | exact of_decide_eq_true (by first | (with_reducible assumption) | assumption) | (have e_ := (Kd.S_reads' HO_3.out).1; omega))
                    obtain ⟨ve116_0, rfl, ge116_0⟩ := hMe116
                    have hv116_0 := hcc116 0 _ rfl
                    rw [Nat.add_zero, show ((Kd.slice 3 (Kd.int .i64))).sz = 1 from rfl, Nat.mul_one] at hv116_0
                    replace hv116_0 := Option.some.inj (hv116_0.symm.trans hx116_0)
                    rw [hv116_0] at ge116_0
                    have HL116_0 := Aside0.mk (show Kd.R (Kd.int .i64) 3 _ _ _ _ (rd_L1 x3_1 (rd t104 x9_1)) from ge116_0)
                    clear hv116_0 ge116_0
                    have HX116_0 := Aside0.mk hx116_0
                    clear hcc116 hce116
                    have HR116_0 := Aside0.mk hi116_0
                    have HC116_0 := Aside0.mk hl116_0
                    clear hi116_0 hl116_0
                    replace p116 := eq_true p116
                    replace q116 := eq_true q116
                    obtain ⟨go27, co27, eo27, gb27, gl27, cl27, HG27⟩ := Kd.S_form HO_3.out (by have h_ : ((rd t104 x9_1) : Int) < ((x3_1.length : Int) : Int) := of_decide_eq_true (by first | (with_reducible assumption) | assumption); have h2_ : 0 ≤ ((rd t104 x9_1) : Int) := (of_decide_eq_true (by first | (with_reducible assumption) | assumption)); omega)
                    (first | cases eo27 | (injection eo27 with ea_ en_ ec_; (first | subst ea_ | (injection ea_ with ea_; subst ea_)); subst ec_; clear en_))
                    have GB27 := Aside0.mk gb27
                    have GG27 := Aside0.mk HG27
                    clear gb27 gl27 HG27
                    (first | simp only [add_plain] at hx116_0 | skip)
                    obtain ⟨oki27, ce27, hcl27, hM27, hcc27, _, _, hH27⟩ := Kd.S_elem HO_3.out [] ((rd t104 x9_1) : Int) (of_decide_eq_true (by first | (with_reducible assumption) | assumption)) (by have h_ : ((rd t104 x9_1) : Int) < ((x3_1.length : Int) : Int) := of_decide_eq_true (by first | (with_reducible assumption) | assumption); first | exact h_ | (have e_ := (Kd.S_reads' HO_3.out).1; omega) | simpa using h_)
                    obtain ⟨ve27_0, rfl, ge27_0⟩ := hM27
                    have hv27 := hcc27 0 _ rfl
                    have hX27 := HX116_0.out
                    (try simp only [add_plain] at hX27)
                    (try simp only [Nat.add_zero] at hv27)
                    (try rw [show ((Kd.slice 3 (Kd.int .i64))).sz = 1 from rfl, Nat.mul_one] at hv27)
                    replace hv27 := Option.some.inj (hv27.symm.trans hX27)
                    subst hv27
                    clear hX27 hcc27 hcl27
                    have UU27 := Aside0.mk (show Kd.R (Kd.int .i64) 3 _ w.heap.size oki27 (.slice A116_0 (rd_L1 x3_1 (rd t104 x9_1)).length c116_0) (rd_L1 x3_1 (rd t104 x9_1)) from ge27_0)
                    have HH27 := Aside0.mk hH27
                    have HN27 := Aside0.mk (Kd.S_reads' HO_3.out).1
                    clear hH27 ge27_0
                    go_wp2_with (first | ((with_reducible refine gate_builtin (b := .append) (xs := #[.tmp 26, .tmp 28]) rfl ?_); at_builtin; refine Kd.R_append (Kd.int .i64) (w0 := w) w.heap.size rfl (.tmp 26) (.tmp 28) 22 3 (.int .i64 0) 8 rfl Try.underlying22 info3 rfl (by decide) (by omega) (.slice A116_0 (rd_L1 x3_1 (rd t104 x9_1)).length c116_0) (rd_L1 x3_1 (rd t104 x9_1)) x9_1 [.int .i64 x9_1] (fun k_ => oki27 k_ ∨ ((fun k_ => some k_ ≠ (.slice (some ad107) t104.length co4 : Value).ownBlock)) k_ ∧ wr.heap.size ≤ k_) (fun _ => False) rfl rfl ?aP (fun _ hk => hk.elim) ?aF ?aO ?aB ?aS ?aL ?_; (case aP => exact rfl); (case aB => exact (by repeat (first | (with_reducible first | exact HB.out | apply below_alloc | apply pw_below_drewN | apply below_drew1) | exact HB.out))); (case aF => exact (fun k_ hk => .inr ⟨Kd.fresh' (Kd.R_lt (by (with_reducible repeat (first | apply Kd.R_alloc | apply Kd.R_drewN | apply Kd.R_drew)); exact HO_7.out)) k_ hk, hk⟩)); (case aO => exact (by (with_reducible repeat (first | apply Kd.R_alloc | apply Kd.R_drewN | apply Kd.R_drew)); exact Kd.R_mono UU27.out (fun _ hk => .inl hk))); (case aS => exact (below_size (by repeat (first | (with_reducible first | exact HB.out | apply below_alloc | apply pw_below_drewN | apply below_drew1) | exact HB.out)))); (case aL => have := LMc24.out; omega); intro v118 w28 ho hb hg hat; rw [← Ny117.out] at ho; have n0_ := Aside0.mk (Kd.R_grown2 (by (with_reducible repeat (first | apply Kd.R_alloc | apply Kd.R_drewN | apply Kd.R_drew)); exact HO_7.out) rfl hg (fun k_ e_ => (HL116_0.out.1 k_ e_).1)); have n1_ := Aside0.mk (hb); have n2_ := Aside0.mk (Kd.H_grown (Kd.H_widen (by repeat (first | exact HH27.out | refine Kd.H_alloc ?_ _ | refine Kd.H_drewN ?_ _ | refine Kd.H_drew ?_))) hg (fun k_ e_ => .inl (UU27.out.1 k_ e_))); have n3_ := Aside0.mk (ho); clear HO_7; clear HB; clear HH27; clear HO_3; clear UU27; clear HL116_0; have HO_7 := n0_; have HB := n1_; have HH27 := n2_; have HO119 := n3_; clear n0_ n1_ n2_ n3_; clear ho hb hg hat; have p25 : 0 ≤ ((rd t104 x9_1) : Int) := of_decide_eq_true (by first | (with_reducible assumption) | assumption); have q25 : ((rd t104 x9_1) : Int) < ((x3_1.length : Int) : Int) := of_decide_eq_true (by first | (with_reducible assumption) | assumption); replace p25 := eq_true p25; replace q25 := eq_true q25; obtain ⟨Ao31, co31, eo31⟩ := Kd.R_slice HO119.out; subst eo31; obtain ⟨_, _, hraw29, _, _, hcc29, _⟩ := Kd.H_raw HH27.out (of_decide_eq_true (by first | (with_reducible assumption) | assumption)) (by have h_ : ((rd t104 x9_1) : Int) < ((x3_1.length : Int) : Int) := of_decide_eq_true (by first | (with_reducible assumption) | assumption); first | exact h_ | (have e_ := (HN27.out); omega) | simpa using h_); obtain ⟨_, hfr29⟩ := Kd.H_at HH27.out (of_decide_eq_true (by first | (with_reducible assumption) | assumption)) (by have h_ : ((rd t104 x9_1) : Int) < ((x3_1.length : Int) : Int) := of_decide_eq_true (by first | (with_reducible assumption) | assumption); first | exact h_ | (have e_ := (HN27.out); omega) | simpa using h_); have hx29_0 := hcc29 0 _ rfl; have hf29_0 := hfr29 0; (try simp only [Nat.add_zero] at hx29_0 hf29_0); (try rw [show ((Kd.slice 3 (Kd.int .i64))).sz = 1 from rfl, Nat.mul_one] at hx29_0); (try rw [show ((Kd.slice 3 (Kd.int .i64))).sz = 1 from rfl, Nat.mul_one] at hf29_0); have HP29 := Kd.S_seg0 HH27.out (of_decide_eq_true (by first | (with_reducible assumption) | assumption)) (by have h_ : ((rd t104 x9_1) : Int) < ((x3_1.length : Int) : Int) := of_decide_eq_true (by first | (with_reducible assumption) | assumption); first | exact h_ | (have e_ := (HN27.out); omega) | simpa using h_) (seg := [.slice Ao31 y117.length co31]) (j := 0) (show 1 ≤ 1 from by decide) (x' := y117) (Kd.M_row HO119.out) (fun _ hk => hk); (try simp only [show ((Kd.slice 3 (Kd.int .i64))).sz = 1 from rfl, Nat.mul_one, Nat.add_zero] at HP29); clear hcc29 hfr29) | ((with_reducible refine gate_store (t := 22) (p := 30) rfl ?_); refine store_event (t := 22) (p := 30) (v := ?vo_w30) (w1 := (w28.setCell ⟨go27, ((rd t104 x9_1) : Int).toNat, none⟩ (.slice Ao31 y117.length co31))) ?hg ?ho ?hn ?hr ?_; (case ho => rfl); (case hg => rfl); (case hn => rfl); (case hr => first | (go_simp; done) | (go_simp; rfl)); intro w30 hw; have hg : w28.grownBy w30 (some go27) := (by rw [hw]; exact HP29.2); have hp_ : Kd.S (Kd.slice 3 (Kd.int .i64)) 22 w30 w.heap.size (fun k_ => some k_ ≠ (.slice (some ad107) t104.length co4 : Value).ownBlock) (.slice (some ⟨go27, 0, none⟩) x3_1.length co26) y120 := (by rw [hw, Ny120.out]; exact HP29.1); clear HP29; have n0_ := Aside0.mk (Kd.R_over' (v := (.slice (some ⟨go27, 0, none⟩) x3_1.length co26)) (by (with_reducible repeat (first | apply Kd.R_alloc | apply Kd.R_drewN | apply Kd.R_drew)); exact HO_7.out) (Kd.R_typed hraw29) (by decide) hg); have n1_ := Aside0.mk ((by rw [hw]; exact below_set HB.out GB27.out : Below w.heap.size w w30)); have n2_ := Aside0.mk (hp_); clear HO_7; clear HB; clear HO119; clear HH27; have HO_7 := n0_; have HB := n1_; have HO_3 := n2_; clear n0_ n1_ n2_; clear hg hw hp_ hraw29))
                    go_roundg k1
                    case measure => have := HK1.out; omega
                    case rel => exact ⟨(y120), (wrap64 (x9_1 + 1)), (by first | rfl | (simp; done) | (simp [*]; done)), H', ⟨by have := HK1.out; omega⟩, ⟨by (with_reducible repeat (first | apply Kd.S_alloc | apply Kd.S_drewN | apply Kd.S_drew)); exact HO_3.out⟩, ⟨by (with_reducible repeat (first | apply Kd.R_alloc | apply Kd.R_drewN | apply Kd.R_drew)); exact HO_7.out⟩, ⟨by repeat (first | (with_reducible first | exact HB.out | apply below_alloc | apply pw_below_drewN | apply below_drew1) | exact HB.out)⟩⟩
                  · rw [if_neg c24] at H
                    exact absurd H (by simp)
                · rw [if_neg c23] at H
                  exact absurd H (by simp)
              · rw [if_neg c22] at H
                exact absurd H (by simp)
          · rw [if_neg c7] at H
            exact absurd H (by simp)
        · rw [if_neg c6] at H
          exact absurd H (by simp)
      · rw [if_neg c5] at H
        have c5b0 : decide (x9_1 < (t104.length : Int)) = false := decide_eq_false c5
        clear c5
        obtain rfl := Option.some.inj H
        go_wp2
        go_ret
        exact ⟨_, by first | rfl | (simp [errW_none, errW_some] <;> rfl) | (simp [*, errW_none, errW_some] <;> rfl), by (with_reducible repeat (first | apply Kd.S_alloc | apply Kd.S_drewN | apply Kd.S_drew)); exact Kd.S_mono HO_3.out (fun _ hk => trivial), by repeat (first | (with_reducible first | exact HB.out | apply below_alloc | apply pw_below_drewN | apply below_drew1) | exact HB.out)⟩

/-! ### part_Count: function 56 -/
def part_Count.f (k : Nat) (l0 : List Int) : Option (Int) := (part_Blocks.f k l0).bind fun t121 => (some (t121.length : Int))
theorem part_Count.mono : ∀ a0 k, LeO (part_Count.f k a0) (part_Count.f (k + 1) a0) := by
  intro a0 k
  unfold part_Count.f
  repeat' first
      | (with_reducible exact part_Blocks.mono _ _)
      | (with_reducible exact LeO.refl _)
      | (with_reducible exact LeO.none _)
      | (with_reducible refine LeO.ite ?_ ?_)
      | (with_reducible refine LeO.bind ?_ (fun _ => ?_))
      | exact part_Blocks.mono _ _
      | exact LeO.none _
      | refine LeO.ite ?_ ?_
      | refine LeO.bind ?_ (fun _ => ?_)
set_option maxHeartbeats 8000000 in
set_option maxRecDepth 100000 in
theorem part_Count.calls (k : Nat) (A0 : Option Addr) (c0 : Nat) (l0 : List Int) (r : Int) (w : World) (hr0 : Kd.C (Kd.int .i64) w A0 l0.length l0) (hc0 : l0.length ≤ c0) (h : part_Count.f k l0 = some r) :
    Calls Try.prog 56 #[.slice A0 l0.length c0] w fun e w' => e = .returned (.int .i64 r) ∧ Below w.heap.size w w' := by
  have HR0 := Aside0.mk hr0
  have HC0 := Aside0.mk hc0
  clear hr0 hc0
  have HB := Aside0.mk (Below.refl w.heap.size w)
  have H : ((part_Blocks.f k l0).bind fun t121 => (some (t121.length : Int))) = some r := h
  clear h
  replace H := Option.bind_eq_some_iff.mp H
  obtain ⟨t121, A20, H⟩ := H
  replace H : (some (t121.length : Int)) = some r := H
  have A2 := Aside0.mk A20
  clear A20
  obtain rfl := Option.some.inj H
  go_enter Try.func56, Try.ntmps56
  go_wp2_with (first | ((with_reducible refine gate_callee (f := 54) rfl ?_); refine goesL_ (some 4) rfl rfl Try.func54 (by kernel_rfl) rfl #[.slice A0 l0.length c0] rfl (by (try simp only [List.map_toArray, List.map_cons, List.map_nil]); first | done | rfl | (simp only [List.length_drop, List.length_take]; rfl)) ?_; (with_reducible refine (part_Blocks.calls k _ _ l0 t121 _ ?side1 ?side2 A2.out).mono ?_); (case side1 => repeat (first | exact HR0.out | (with_reducible refine Kd.C_alloc ?_ _) | (with_reducible refine Kd.C_drewN ?_ _) | (with_reducible refine Kd.C_drew ?_))); (case side2 => exact HC0.out); rintro e w3 ⟨v122, rfl, ho0, hb⟩; refine ⟨_, rfl, ?_⟩; have n0_ := Aside0.mk (Kd.S_lower ho0 (below_size (by repeat (first | (with_reducible first | exact HB.out | apply below_alloc | apply pw_below_drewN | apply below_drew1) | exact HB.out)))); have n1_ := Aside0.mk (below_step (by repeat (first | (with_reducible first | exact HB.out | apply below_alloc | apply pw_below_drewN | apply below_drew1) | exact HB.out)) hb); clear HB; have HO123 := n0_; have HB := n1_; clear n0_ n1_; (try clear hb); (try clear hb2); (try clear hk); (try clear hi); (try clear ho0); obtain ⟨Ao4, co4, eo4⟩ := Kd.S_slice HO123.out; subst eo4))
  go_ret
  exact ⟨by first | rfl | (simp [errW_none, errW_some] <;> rfl) | (simp [*, errW_none, errW_some] <;> rfl), by repeat (first | (with_reducible first | exact HB.out | apply below_alloc | apply pw_below_drewN | apply below_drew1) | exact HB.out)⟩

end Go.Proofs.Ytjlegibfeenglaa.XP
