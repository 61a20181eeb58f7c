-- written by wip/xprint.py out of the translation
import Derived.Test.YtfpmbognpacidaaXUp0
namespace Go.Proofs.Ytfpmbognpacidaa.XU
open Go.RowKit Go.Proofs.YtfpmbognpacidaaW.PrintWords Go.Proofs.YtfpmbognpacidaaW.PrintLast Go.Proofs.YtfpmbognpacidaaW.PrintMore
attribute [local go_sem] max2_int min2_int max_two min_two max_three min_three max_four min_four   -- for this text's walks alone
set_option linter.unusedVariables false
set_option linter.unusedSimpArgs false

/-! ### names_Union: function 36 -/
theorem names_Union.info9 : (Try.prog.info? 9).map (fun i => (i.zero, i.size, i.bytes)) = some (some (.string ⟨#[]⟩), 1, 16) := by kernel_rfl
set_option maxHeartbeats 2000000 in
set_option maxRecDepth 100000 in
theorem names_Union.grow (n : Nat) (w : World) (hn : n ≤ 4000000) :
    Calls Try.prog 123 #[.slice none 0 0, .int .i64 n] w fun e w' => ∃ v0_ : Value, e = .returned v0_ ∧ Kd.R Kd.string 9 w' w.heap.size (fun _ => True) v0_ [] ∧ Below w.heap.size w w' := by
  have c0 : decide ((n : Int) < 0) = false := decide_eq_false (by omega)
  by_cases h0 : n = 0
  · subst h0
    go_enter Try.func123, Try.ntmps123
    go_wp2_with fail
    go_ret
    exact ⟨_, rfl, Kd.R_nil _ _ _ _ _, Below.refl _ _⟩
  · have c1 : decide (0 < n) = true := decide_eq_true (by omega)
    have c2 : decide ((0 : Int) < (n : Int)) = true := decide_eq_true (by omega)
    obtain ⟨i9, hi9, _, _, _⟩ := info_parts names_Union.info9
    have hcut0 := cut_to (P := Try.prog) 22 9 .i64 Try.underlying22 hi9 none 0 0 0 (Int.le_refl _) (Int.le_refl _) (Nat.le_refl _)
    have hni : (0 : Int) ≤ (n : Int) := by omega
    go_enter Try.func123, Try.ntmps123
    go_wp2_with ((with_reducible refine gate_builtin (b := .append) (xs := #[.tmp 20, .tmp 21]) rfl ?_); at_builtin; refine Kd.R_append_zeros Kd.string (w0 := w) w.heap.size rfl (.tmp 20) (.tmp 21) 22 3 9 (.string ⟨#[]⟩) 16 rfl Try.underlying22 Try.underlying3 names_Union.info9 rfl (by decide) (by omega) (.slice none 0 0) [] ByteArray.empty (n : Int) (fun _ => True) rfl rfl ?aZ ?aF ?aO hni ?aB ?aS ?aL ?aK)
    case aZ => rfl
    case aF => exact fun _ _ => trivial
    case aO => exact Kd.R_nil _ _ _ _ _
    case aB => exact Below.refl _ _
    case aS => exact Nat.le_refl _
    case aL => simp; omega
    case aK =>
      intro v1 w1 ho hb hg hat
      obtain ⟨A1, c1', e1, hl1, -⟩ := Kd.R_reads ho
      rw [List.length_replicate] at e1 hl1
      subst e1
      have hcut1 := cut_to (P := Try.prog) 22 9 .i64 Try.underlying22 hi9 A1 n c1' 0 (Int.le_refl _) hni hl1
      have HO := Aside0.mk (Kd.R_take ho (m := 0) (Nat.zero_le _))
      have HB := Aside0.mk hb
      clear ho hb hg hat hcut0
      go_wp2_with fail
      go_ret
      exact ⟨_, rfl, HO.out, HB.out⟩
def names_Union.sz (n0 n1 k : Nat) : Nat := if k = 0 then 0 else if k = 1 then n0 else n0 + n1
def names_Union.pre (l0 l1 : List ByteArray) (k : Nat) : List ByteArray := if k = 0 then [] else if k = 1 then l0 else l0 ++ l1
set_option maxHeartbeats 4000000 in
set_option maxRecDepth 100000 in
/-- two slices one behind the other -/
theorem names_Union.concat (A0 : Option Addr) (c0 : Nat) (l0 : List ByteArray) (A1 : Option Addr) (c1 : Nat) (l1 : List ByteArray) (q : Nat) (w : World) (hr0 : Kd.C Kd.string w A0 l0.length l0) (hr1 : Kd.C Kd.string w A1 l1.length l1)
    (hq : w.heap[q]? = some (.cells #[.slice A0 l0.length c0, .slice A1 l1.length c1] 22 (0, 0))) (h0 : l0.length ≤ 1000000) (h1 : l1.length ≤ 1000000) :
    Calls Try.prog 81 #[.slice (some ⟨q, 0, none⟩) 2 2] w fun e w' => ∃ v0_ : Value, e = .returned v0_ ∧ Kd.R Kd.string 9 w' w.heap.size (fun _ => True) v0_ (l0 ++ l1) ∧ Below w.heap.size w w' := by
  have HR0 := Aside0.mk hr0
  have HR1 := Aside0.mk hr1
  have hq0 : w.cell? ⟨q, 0, none⟩ = some (.slice A0 l0.length c0) := by unfold World.cell?; rw [hq]; rfl
  have hq1 : w.cell? ⟨q, 1, none⟩ = some (.slice A1 l1.length c1) := by unfold World.cell?; rw [hq]; rfl
  have HQ0 := Aside0.mk hq0
  have HQ1 := Aside0.mk hq1
  have d1 : decide ((l0.length : Int) < 0) = false := decide_eq_false (by omega)
  have d2 : decide ((l0.length : Int) + (l1.length : Int) < 0) = false := decide_eq_false (by omega)
  have d3 : decide ((0 : Int) < 2) = true := rfl
  clear hr0 hr1 hq
  go_enter Try.func81, Try.ntmps81
  go_wp2_with fail
  go_loopg [3, 11] 2 (fun kq v3' v11 wr' => ∃ (v3 : Value) (k : Nat), v3 = v3' ∧ w = wr' ∧ Aside0 (2 - k = kq) ∧ Aside0 (k ≤ 2) ∧ v11 = .int .i64 (k : Int) ∧ Aside0 (v3 = .int .i64 ((names_Union.sz l0.length l1.length k : Nat) : Int)))
  case atStart => exact ⟨_, 0, rfl, rfl, ⟨rfl⟩, ⟨Nat.zero_le _⟩, rfl, ⟨rfl⟩⟩
  case round =>
    obtain ⟨v3, k, rfl, rfl, HK, HI, rfl, HV⟩ := hrel
    by_cases hk0 : k = 0
    · have hv := HV.out
      subst hk0
      rw [show names_Union.sz l0.length l1.length 0 = 0 from rfl] at hv
      subst hv
      have hq0 := HQ0.out
      have f1 : decide (((0 : Nat) : Int) < 2) = true := rfl
      have f2 : decide ((0 : Int) + (l0.length : Int) < 0) = false := decide_eq_false (by omega)
      go_wp2_with fail
      go_roundg 1
      case measure => have := HK.out; omega
      case rel => exact ⟨_, 1, rfl, rfl, ⟨rfl⟩, ⟨by omega⟩, by go_num, ⟨by rw [show names_Union.sz l0.length l1.length 1 = l0.length from rfl]⟩⟩
    · by_cases hk1 : k = 1
      · have hv := HV.out
        subst hk1
        rw [show names_Union.sz l0.length l1.length 1 = l0.length from rfl] at hv
        subst hv
        have hq1 := HQ1.out
        have f1 : decide (((1 : Nat) : Int) < 2) = true := rfl
        go_wp2_with fail
        go_roundg 0
        case measure => have := HK.out; omega
        case rel => exact ⟨_, 2, rfl, rfl, ⟨rfl⟩, ⟨by omega⟩, by go_num, ⟨by rw [show names_Union.sz l0.length l1.length 2 = l0.length + l1.length from rfl]; go_num⟩⟩
      · have hv := HV.out
        have hk2 : k = 2 := by have := HI.out; omega
        subst hk2
        rw [show names_Union.sz l0.length l1.length 2 = l0.length + l1.length from rfl] at hv
        subst hv
        have f1 : decide (((2 : Nat) : Int) < 2) = false := rfl
        clear hk0 hk1
        go_wp2_with fail
        refine (names_Union.grow (l0.length + l1.length) _ (by omega)).mono ?_
        rintro e w1 ⟨vb, rfl, ho, hb⟩
        have HO1 := Aside0.mk ho
        have HB1 := Aside0.mk hb
        clear ho hb
        go_wp2_with fail
        go_loopg [6, 27] 2 (fun kq v6' v27 wr' => ∃ (v6 : Value) (wr : World) (k : Nat), v6 = v6' ∧ wr = wr' ∧ Aside0 (2 - k = kq) ∧ Aside0 (k ≤ 2) ∧ v27 = .int .i64 (k : Int) ∧ Aside0 (Kd.R Kd.string 9 wr w.heap.size (fun _ => True) v6 (names_Union.pre l0 l1 k)) ∧ Aside0 (Below w.heap.size w wr))
        case atStart => exact ⟨_, _, 0, rfl, rfl, ⟨rfl⟩, ⟨Nat.zero_le _⟩, rfl, HO1, HB1⟩
        case round =>
          clear HO1 HB1
          obtain ⟨v6, wr, k, rfl, rfl, HK, HI, rfl, HO, HB⟩ := hrel
          obtain ⟨A6, c6, e6⟩ := Kd.R_slice HO.out
          subst e6
          by_cases hk0 : k = 0
          · subst hk0
            have HOO : Aside0 (Kd.R Kd.string 9 wr w.heap.size (fun _ => True) (.slice A6 ([] : List ByteArray).length c6) []) := HO
            have hq0 := pw_cell_below HB.out HQ0.out
            have f1 : decide (((0 : Nat) : Int) < 2) = true := rfl
            rw [show (names_Union.pre l0 l1 0).length = ([] : List ByteArray).length from rfl]
            go_wp2_with ((with_reducible refine gate_builtin (b := .append) (xs := #[.tmp 31, .tmp 32]) rfl ?_); at_builtin; refine Kd.R_append_rows Kd.string (w0 := w) w.heap.size rfl (.tmp 31) (.tmp 32) 22 9 (.string ⟨#[]⟩) 16 rfl Try.underlying22 names_Union.info9 rfl (by decide) (by omega) (.slice A6 ([] : List ByteArray).length c6) [] l0 A0 l0.length c0 (fun _ => True) (fun _ => False) rfl rfl HOO.out (Kd.C_below HR0.out HB.out) (fun _ _ h_ => h_) (fun _ hk => hk.elim) (fun _ _ => trivial) HB.out HB.out.size (by simp; omega) ?aK)
            case aK =>
              intro v1 w3 ho hb hg hat
              have HO3 : Aside0 (Kd.R Kd.string 9 w3 w.heap.size (fun _ => True) v1 (names_Union.pre l0 l1 1)) := ⟨ho⟩
              have HB3 := Aside0.mk hb
              clear ho hb hg hat hq0
              go_wp2
              go_roundg 1
              case measure => have := HK.out; omega
              case rel => exact ⟨_, _, 1, rfl, rfl, ⟨rfl⟩, ⟨by omega⟩, by go_num, HO3, HB3⟩
          · by_cases hk1 : k = 1
            · subst hk1
              have HOO : Aside0 (Kd.R Kd.string 9 wr w.heap.size (fun _ => True) (.slice A6 l0.length c6) l0) := HO
              have hq1 := pw_cell_below HB.out HQ1.out
              have f1 : decide (((1 : Nat) : Int) < 2) = true := rfl
              rw [show (names_Union.pre l0 l1 1).length = l0.length from rfl]
              go_wp2_with ((with_reducible refine gate_builtin (b := .append) (xs := #[.tmp 31, .tmp 32]) rfl ?_); at_builtin; refine Kd.R_append_rows Kd.string (w0 := w) w.heap.size rfl (.tmp 31) (.tmp 32) 22 9 (.string ⟨#[]⟩) 16 rfl Try.underlying22 names_Union.info9 rfl (by decide) (by omega) (.slice A6 l0.length c6) l0 l1 A1 l1.length c1 (fun _ => True) (fun _ => False) rfl rfl HOO.out (Kd.C_below HR1.out HB.out) (fun _ _ h_ => h_) (fun _ hk => hk.elim) (fun _ _ => trivial) HB.out HB.out.size (by omega) ?aK2)
              case aK2 =>
                intro v1 w3 ho hb hg hat
                have HO3 : Aside0 (Kd.R Kd.string 9 w3 w.heap.size (fun _ => True) v1 (names_Union.pre l0 l1 2)) := ⟨ho⟩
                have HB3 := Aside0.mk hb
                clear ho hb hg hat hq1
                go_wp2
                go_roundg 0
                case measure => have := HK.out; omega
                case rel => exact ⟨_, _, 2, rfl, rfl, ⟨rfl⟩, ⟨by omega⟩, by go_num, HO3, HB3⟩
            · have hk2 : k = 2 := by have := HI.out; omega
              subst hk2
              have f1 : decide (((2 : Nat) : Int) < 2) = false := rfl
              clear hk0 hk1
              go_wp2_with fail
              go_ret
              exact ⟨_, rfl, HO.out, HB.out⟩
def names_Union.f (l0 l1 : List ByteArray) : Option (List ByteArray) := if l0.length ≤ 1000000 ∧ l1.length ≤ 1000000 then some (Go.Proofs.Ytfpmbognpacidaa.XNamesPlain.unionF l0 l1) else none
theorem names_Union.encs (xs : List ByteArray) : (xs.map Value.string) = (xs.map Go.Proofs.Ytfpmbognpacidaa.XNamesPlain.bts).map Go.Proofs.encStr := by
  rw [List.map_map]
  apply List.map_congr_left
  intro x _
  show Value.string x = Value.string ⟨(Go.Proofs.Ytfpmbognpacidaa.XNamesPlain.bts x).toArray⟩
  rw [show (⟨(Go.Proofs.Ytfpmbognpacidaa.XNamesPlain.bts x).toArray⟩ : ByteArray) = x from Go.Proofs.Ytfpmbognpacidaa.XNamesPlain.mk_bts x]
theorem names_Union.encs2 (ts : List (List UInt8)) : (ts.map Go.Proofs.encStr) = (ts.map Go.Proofs.Ytfpmbognpacidaa.XNamesPlain.mk).map Value.string := by
  rw [List.map_map]
  rfl
set_option maxHeartbeats 4000000 in
set_option maxRecDepth 100000 in
theorem names_Union.calls (A0 : Option Addr) (c0 : Nat) (l0 : List ByteArray) (A1 : Option Addr) (c1 : Nat) (l1 : List ByteArray) (r : List ByteArray) (w : World) (hr0 : Kd.C Kd.string w A0 l0.length l0) (hc0 : l0.length ≤ c0) (hr1 : Kd.C Kd.string w A1 l1.length l1) (hc1 : l1.length ≤ c1) (h : names_Union.f l0 l1 = some r) :
    Calls Try.prog 36 #[.slice A0 l0.length c0, .slice A1 l1.length c1] w fun e w' => ∃ v0_ : Value, e = .returned v0_ ∧ Kd.R Kd.string 9 w' w.heap.size (fun _ => True) v0_ r ∧ Below w.heap.size w w' := by
  unfold names_Union.f at h
  split at h
  case isFalse => cases h
  case isTrue hl =>
  obtain ⟨hl0, hl1⟩ := hl
  have HRR := Aside0.mk (Option.some.inj h)
  have HR0 := Aside0.mk hr0
  have HR1 := Aside0.mk hr1
  clear h hr0 hr1
  go_enter Try.func36, Try.ntmps36
  go_wp2_with fail
  refine (names_Union.concat A0 c0 l0 A1 c1 l1 w.heap.size _ (Kd.C_alloc HR0.out _) (Kd.C_alloc HR1.out _) (heap_alloc_new _ _) hl0 hl1).mono ?_
  rintro e w1 ⟨vb, rfl, ho, hb⟩
  have hb1 : Below w.heap.size w w1 := below_then (below_alloc (Below.refl _ _) _) (below_alloc (Below.refl _ _) _).size hb
  have hO := Kd.R_lower (base' := w.heap.size) ho (by rw [World.size_alloc]; exact Nat.le_succ _)
  have HB1 := Aside0.mk hb1
  have hown := Kd.own_of_R hO
  have hlen : (l0 ++ l1).length ≤ 2000000 := by rw [List.length_append]; omega
  unfold Go.Proofs.Ytfpmbognpacidaa.XNamesPlain.unionF at HRR
  generalize l0 ++ l1 = xs at *
  clear ho hb hb1 hO
  rcases hown.2 with ⟨rfl, hx0⟩ | ⟨g, cap, cur, rfl, hbase, hblk, hncap, hcap, hsz, htake⟩
  · have hxs : xs = [] := List.eq_nil_of_length_eq_zero hx0
    subst hxs
    clear hown hx0 hlen
    have hr : r = [] := by have h_ := HRR.out; simp [Go.Proofs.Ytfpmbognpacidaa.XNamesPlain.unionL, Go.Proofs.Ytfpmbognpacidaa.XNamesPlain.sorted, Lib.compact, Lib.compactUpTo] at h_; exact h_
    subst hr
    go_wp2_with fail
    refine (Try.slices_Sort_string_none none 0 _).mono ?_
    rintro e w2 ⟨rfl, hw2⟩
    subst hw2
    go_wp2_with fail
    refine (Try.slices_Compact_string_empty none 0 _).mono ?_
    rintro e w3 ⟨rfl, hw3⟩
    subst hw3
    go_wp2
    go_ret
    exact ⟨_, rfl, Kd.R_nil _ _ _ _ _, HB1.out⟩
  · obtain ⟨ss, hss⟩ : ∃ ss, ss = xs.map Go.Proofs.Ytfpmbognpacidaa.XNamesPlain.bts := ⟨_, rfl⟩
    have hsl : ss.length = xs.length := by rw [hss, List.length_map]
    have htk : cur.toList.take ss.length = ss.map Go.Proofs.encStr := by
      rw [hsl, hss, ← names_Union.encs]
      rw [Nat.mul_one] at htake
      exact htake
    have hholds := holds_of_block hblk htk
    have hgl : g < w1.heap.size := lt_of_block hblk
    have HSL := Aside0.mk hsl
    have hs1 := Try.slices_Sort_string g 0 cap ss w1 hholds hgl (by omega)
    have HS1 := Aside0.mk hs1
    have HHB := Aside0.mk hblk
    have hnc : ss.length ≤ cap := by omega
    rw [← hsl]
    have HOWN := Aside0.mk (⟨hbase, hcap, hsz⟩ : w.heap.size ≤ g ∧ cap ≤ maxLen ∧ cur.size = cap * 1)
    have HSS := Aside0.mk hss
    have hs2 : ss.length ≤ 2000000 := by omega
    clear hholds hgl hs1 hblk htk hsl hown hncap hsz htake hbase hcap hss hlen
    go_wp2_with fail
    refine HS1.out.mono ?_
    rintro e w2 ⟨rfl, n, os, hw2⟩
    have hso : w2.ownsRow w.heap.size 9 1 (.slice (some ⟨g, 0, none⟩) ss.length cap) ss.length ((Go.Proofs.Ytfpmbognpacidaa.XNamesPlain.sorted ss).map Go.Proofs.encStr) := by
      rw [hw2]
      exact ownsRow_sorted (ts := Go.Proofs.Ytfpmbognpacidaa.XNamesPlain.sorted ss) (Go.Proofs.Ytfpmbognpacidaa.XNamesPlain.sorted_length ss) HOWN.out.1 HHB.out hnc HOWN.out.2.1 HOWN.out.2.2
    have hb2 : Below w.heap.size w w2 := by
      rw [hw2]
      exact HB1.out.grown (grownBy_sorted _) HB1.out.size (fun k hk => by injection hk with hk; rw [← hk]; exact HOWN.out.1)
    rcases hso.2 with ⟨h0, _⟩ | ⟨g', cap', cur2, hv, hg2, hblk2, hn2, hcap2, hsz2, htk2⟩
    · cases h0
    obtain ⟨rfl, rfl⟩ : g = g' ∧ cap = cap' := by injection hv with hv1 hv2 hv3; injection hv1 with hv1; injection hv1 with hv1; exact ⟨hv1, hv3⟩
    obtain ⟨ts, hts⟩ : ∃ ts, ts = Go.Proofs.Ytfpmbognpacidaa.XNamesPlain.sorted ss := ⟨_, rfl⟩
    have htl : ts.length = ss.length := by rw [hts]; exact Go.Proofs.Ytfpmbognpacidaa.XNamesPlain.sorted_length ss
    rw [← hts, Nat.mul_one, ← htl] at htk2
    have hholds2 := holds_of_block hblk2 htk2
    have hcomp := Try.slices_Compact_string g 0 cap ts w2 hholds2 (by omega) (by omega)
    rw [htl] at hcomp
    have HCOMP := Aside0.mk hcomp
    have HB2 := Aside0.mk hb2
    have HTS := Aside0.mk hts
    have HTL := Aside0.mk htl
    have HBLK2 := Aside0.mk hblk2
    have HSZ2 := Aside0.mk hsz2
    clear hw2 hso hb2 hv hg2 hblk2 hn2 hcap2 hsz2 htk2 hts htl hholds2 hcomp HS1
    go_wp2_with fail
    refine HCOMP.out.mono ?_
    rintro e w3 ⟨rfl, q, hw3⟩
    have hcl : (Lib.compact ts).length ≤ ts.length := by
      unfold Lib.compact Lib.compactUpTo
      rw [List.length_map]
      exact Nat.le_trans (List.length_filter_le _ _) (by simp)
    have hg3 : w3 = Go.Sort.grow (Go.Sort.putRow Go.Proofs.encStr (Go.Sort.ahead w2 q) g 0 (Lib.compact ts ++ List.replicate (ss.length - (Lib.compact ts).length) []).toArray) #[] := by
      rw [Go.Sort.grow_empty, hw3, ← HTL.out]
    have hso3 : w3.ownsRow w.heap.size 9 1 (.slice (some ⟨g, 0, none⟩) ts.length cap) ts.length ((Lib.compact ts ++ List.replicate (ss.length - (Lib.compact ts).length) []).map Go.Proofs.encStr) := by
      rw [hg3]
      exact ownsRow_sorted (by rw [List.length_append, List.length_replicate, ← HTL.out]; omega) HOWN.out.1 HBLK2.out (by rw [HTL.out]; exact hnc) HOWN.out.2.1 HSZ2.out
    have hb3 : Below w.heap.size w w3 := by
      rw [hg3]
      exact HB2.out.grown (grownBy_sorted _) HB2.out.size (fun k hk => by injection hk with hk; rw [← hk]; exact HOWN.out.1)
    rw [names_Union.encs2] at hso3
    have hR3 : Kd.R Kd.string 9 w3 w.heap.size (fun _ => True) (.slice (some ⟨g, 0, none⟩) ts.length cap) ((Lib.compact ts ++ List.replicate (ss.length - (Lib.compact ts).length) []).map Go.Proofs.Ytfpmbognpacidaa.XNamesPlain.mk) := by
      refine Kd.R_of_own (enc := Value.string) ?_ (fun _ _ => trivial)
      have hl3 : ((Lib.compact ts ++ List.replicate (ss.length - (Lib.compact ts).length) []).map Go.Proofs.Ytfpmbognpacidaa.XNamesPlain.mk).length = ts.length := by
        rw [List.length_map, List.length_append, List.length_replicate, ← HTL.out]; omega
      rw [hl3]
      exact hso3
    have hR4 := Kd.R_take hR3 (m := (Lib.compact ts).length) (by rw [List.length_map, List.length_append]; omega)
    rw [← List.map_take, List.take_left] at hR4
    have hres : (Lib.compact ts).map Go.Proofs.Ytfpmbognpacidaa.XNamesPlain.mk = r := by
      rw [HTS.out, HSS.out]; exact HRR.out
    rw [hres] at hR4
    have HR4 := Aside0.mk hR4
    have HB3 := Aside0.mk hb3
    clear hw3 hg3 hso3 hb3 hR3 hR4 hres hcl
    go_wp2_with fail
    go_ret
    exact ⟨_, rfl, HR4.out, HB3.out⟩


/-! ### semblanceref01_Texts: function 37 -/
def semblanceref01_Texts.l0 : Nat → List ByteArray → List ByteArray → Int → Option (Bool)
  | 0, _, _, _ => none
  | k + 1, x0, x1, x5 => if x5 < (x0.length : Int) then (if 0 ≤ x5 then (if x5 < (x1.length : Int) then (if (rdOf ByteArray.empty x0 x5).toList = (rdOf ByteArray.empty x1 x5).toList then (semblanceref01_Texts.l0 k x0 x1 (wrap64 (x5 + 1))) else (some false)) else (none)) else (none)) else (some true)
def semblanceref01_Texts.f (k : Nat) (l0 : List ByteArray) (l1 : List ByteArray) : Option (Bool) := if (l0.length : Int) = (l1.length : Int) then (semblanceref01_Texts.l0 k l0 l1 0) else (some false)
theorem semblanceref01_Texts.mono_l : ∀ k, (∀ y0 y1 y2, LeO (semblanceref01_Texts.l0 k y0 y1 y2) (semblanceref01_Texts.l0 (k + 1) y0 y1 y2))
  | 0 => fun _ _ _ r h => by simp [semblanceref01_Texts.l0] at h
  | k + 1 => by
    have ih0 := semblanceref01_Texts.mono_l k
    · intro y0 y1 y2
      unfold semblanceref01_Texts.l0
      repeat' first
      | (with_reducible exact ih0 _ _ _)
      | (with_reducible exact LeO.refl _)
      | (with_reducible exact LeO.none _)
      | (with_reducible refine LeO.ite ?_ ?_)
      | (with_reducible refine LeO.bind ?_ (fun _ => ?_))
      | exact ih0 _ _ _
      | exact LeO.none _
      | refine LeO.ite ?_ ?_
      | refine LeO.bind ?_ (fun _ => ?_)
theorem semblanceref01_Texts.mono : ∀ a0 a1 k, LeO (semblanceref01_Texts.f k a0 a1) (semblanceref01_Texts.f (k + 1) a0 a1) := by
  intro a0 a1 k
  have ih0 := semblanceref01_Texts.mono_l k
  unfold semblanceref01_Texts.f
  repeat' first
      | (with_reducible exact ih0 _ _ _)
      | (with_reducible exact LeO.refl _)
      | (with_reducible exact LeO.none _)
      | (with_reducible refine LeO.ite ?_ ?_)
      | (with_reducible refine LeO.bind ?_ (fun _ => ?_))
      | exact ih0 _ _ _
      | exact LeO.none _
      | refine LeO.ite ?_ ?_
      | refine LeO.bind ?_ (fun _ => ?_)
set_option maxHeartbeats 8000000 in
set_option maxRecDepth 100000 in
theorem semblanceref01_Texts.calls (k : Nat) (A0 : Option Addr) (c0 : Nat) (l0 : List ByteArray) (A1 : Option Addr) (c1 : Nat) (l1 : List ByteArray) (r : Bool) (w : World) (hr0 : Kd.C Kd.string w A0 l0.length l0) (hc0 : l0.length ≤ c0) (hr1 : Kd.C Kd.string w A1 l1.length l1) (hc1 : l1.length ≤ c1) (h : semblanceref01_Texts.f k l0 l1 = some r) :
    Calls Try.prog 37 #[.slice A0 l0.length c0, .slice A1 l1.length c1] w fun e w' => e = .returned (.bool r) ∧ Drawn0 w w' := by
  have HR0 := Aside0.mk hr0
  have HC0 := Aside0.mk hc0
  clear hr0 hc0
  have HR1 := Aside0.mk hr1
  have HC1 := Aside0.mk hc1
  clear hr1 hc1
  have H : (if (l0.length : Int) = (l1.length : Int) then (semblanceref01_Texts.l0 k l0 l1 0) else (some false)) = some r := h
  clear h
  by_cases c3 : (l0.length : Int) = (l1.length : Int)
  · rw [if_pos c3] at H
    have c3b0 : ((l0.length : Int) == (l1.length : Int)) = true := beq_iff_eq.mpr c3
    have c3b1 : ((l0.length : Int) != (l1.length : Int)) = false := bne_eq_false_iff_eq.mpr c3
    have c3b2 : (l0.length == l1.length) = true := by first | simpa using c3 | (simp at c3 ⊢; omega)
    clear c3
    have H' := Aside0.mk H
    clear H
    go_enter Try.func37, Try.ntmps37
    go_wp2
    repeat (go_quiet (fail); try go_wp2)
    go_loopg [5] k (fun kq v5 w' => ∃ (x5_1 : Int), v5 = .int .i64 x5_1 ∧ Aside0 (semblanceref01_Texts.l0 kq l0 l1 x5_1 = some r) ∧ Aside0 (kq ≤ k) ∧ Drawn0 w w')
    case atStart => exact ⟨(0), (by first | rfl | (simp; done) | (simp [*]; done)), H', ⟨Nat.le_refl _⟩, by repeat (first | exact Drawn0.refl _ | apply Drawn0.step)⟩
    case round =>
      clear H'
      try clear c1
      try clear p2
      try clear c3
      try clear c3b0
      try clear c3b1
      try clear c3b2
      obtain ⟨x5_1, rfl, HA, HK1, ⟨m1, rfl⟩⟩ := hrel
      cases gk with
      | zero => exact absurd HA.out (by simp [semblanceref01_Texts.l0])
      | succ k1 =>
        have H := HA.out
        clear HA
        simp only [semblanceref01_Texts.l0] at H
        by_cases c4 : x5_1 < (l0.length : Int)
        · rw [if_pos c4] at H
          have c4b0 : decide (x5_1 < (l0.length : Int)) = true := decide_eq_true c4
          clear c4
          by_cases c5 : 0 ≤ x5_1
          · rw [if_pos c5] at H
            have c5b0 : decide (0 ≤ x5_1) = true := decide_eq_true c5
            clear c5
            by_cases c6 : x5_1 < (l1.length : Int)
            · rw [if_pos c6] at H
              have c6b0 : decide (x5_1 < (l1.length : Int)) = true := decide_eq_true c6
              clear c6
              by_cases c7 : (rdOf ByteArray.empty l0 x5_1).toList = (rdOf ByteArray.empty l1 x5_1).toList
              · rw [if_pos c7] at H
                have c7b0 : ((rdOf ByteArray.empty l0 x5_1).toList == (rdOf ByteArray.empty l1 x5_1).toList) = true := beq_iff_eq.mpr c7
                have c7b1 : ((rdOf ByteArray.empty l0 x5_1).toList != (rdOf ByteArray.empty l1 x5_1).toList) = false := bne_eq_false_iff_eq.mpr c7
                clear c7
                have H' := Aside0.mk H
                clear H
                have p101 : 0 ≤ (x5_1 : Int) := of_decide_eq_true (by first | (with_reducible assumption) | assumption)
                have q101 : x5_1 < (l0.length : Int) := of_decide_eq_true (by first | (with_reducible assumption) | assumption)
                obtain ⟨ad101, e101, hx101_0⟩ := Kd.at_string HR0.out x5_1 p101 q101
                cases e101
                replace p101 := eq_true p101
                replace q101 := eq_true q101
                have p102 : 0 ≤ (x5_1 : Int) := of_decide_eq_true (by first | (with_reducible assumption) | assumption)
                have q102 : x5_1 < (l1.length : Int) := of_decide_eq_true (by first | (with_reducible assumption) | assumption)
                obtain ⟨ad102, e102, hx102_0⟩ := Kd.at_string HR1.out x5_1 p102 q102
                cases e102
                replace p102 := eq_true p102
                replace q102 := eq_true q102
                go_wp2
                repeat (go_quiet (fail); try go_wp2)
                go_roundg k1
                case measure => have := HK1.out; omega
                case rel => exact ⟨(wrap64 (x5_1 + 1)), (by first | rfl | (simp; done) | (simp [*]; done)), H', ⟨by have := HK1.out; omega⟩, by repeat (first | exact Drawn0.refl _ | apply Drawn0.step)⟩
              · rw [if_neg c7] at H
                have c7b0 : ((rdOf ByteArray.empty l0 x5_1).toList == (rdOf ByteArray.empty l1 x5_1).toList) = false := beq_eq_false_iff_ne.mpr c7
                have c7b1 : ((rdOf ByteArray.empty l0 x5_1).toList != (rdOf ByteArray.empty l1 x5_1).toList) = true := bne_iff_ne.mpr c7
                obtain rfl := Option.some.inj H
                have p101 : 0 ≤ (x5_1 : Int) := of_decide_eq_true (by first | (with_reducible assumption) | assumption)
                have q101 : x5_1 < (l0.length : Int) := of_decide_eq_true (by first | (with_reducible assumption) | assumption)
                obtain ⟨ad101, e101, hx101_0⟩ := Kd.at_string HR0.out x5_1 p101 q101
                cases e101
                replace p101 := eq_true p101
                replace q101 := eq_true q101
                have p102 : 0 ≤ (x5_1 : Int) := of_decide_eq_true (by first | (with_reducible assumption) | assumption)
                have q102 : x5_1 < (l1.length : Int) := of_decide_eq_true (by first | (with_reducible assumption) | assumption)
                obtain ⟨ad102, e102, hx102_0⟩ := Kd.at_string HR1.out x5_1 p102 q102
                cases e102
                replace p102 := eq_true p102
                replace q102 := eq_true q102
                go_wp2
                repeat (go_quiet (fail); try go_wp2)
                go_ret
                exact ⟨by first | rfl | (simp; done) | (simp [*]; done), by repeat (first | exact Drawn0.refl _ | apply Drawn0.step)⟩
            · rw [if_neg c6] at H
              exact absurd H (by simp)
          · rw [if_neg c5] at H
            exact absurd H (by simp)
        · rw [if_neg c4] at H
          have c4b0 : decide (x5_1 < (l0.length : Int)) = false := decide_eq_false c4
          clear c4
          obtain rfl := Option.some.inj H
          go_wp2
          repeat (go_quiet (fail); try go_wp2)
          go_ret
          exact ⟨by first | rfl | (simp; done) | (simp [*]; done), by repeat (first | exact Drawn0.refl _ | apply Drawn0.step)⟩
  · rw [if_neg c3] at H
    have c3b0 : ((l0.length : Int) == (l1.length : Int)) = false := beq_eq_false_iff_ne.mpr c3
    have c3b1 : ((l0.length : Int) != (l1.length : Int)) = true := bne_iff_ne.mpr c3
    have c3b2 : (l0.length == l1.length) = false := by first | simpa using c3 | (simp at c3 ⊢; omega)
    obtain rfl := Option.some.inj H
    go_enter Try.func37, Try.ntmps37
    go_wp2
    repeat (go_quiet (fail); try go_wp2)
    go_ret
    exact ⟨by first | rfl | (simp; done) | (simp [*]; done), by repeat (first | exact Drawn0.refl _ | apply Drawn0.step)⟩

/-! ### names_Twins: function 41 -/
def names_Twins.f (l0 : List ByteArray) : Option (List Int) := if l0.length ≤ 1000000 then (if (l0.all fun s => decide (s.size ≤ 1000000)) = true then some (Go.Proofs.Ytfpmbognpacidaa.XNamesPlain.twinsF l0) else none) else none
theorem names_Twins.law : Go.Maps.Keyed Try.prog 9 := Go.Maps.string_keyed Try.underlying9
theorem names_Twins.zeroE (w : World) : (zeroValue 3).run Try.prog w = .ok (.int .i64 0) w := by kernel_rfl
theorem names_Twins.info8 : (Try.prog.info? 3).map (fun i => (i.zero, i.size, i.bytes)) = some (some (.int .i64 0), 1, 8) := by kernel_rfl
/-- the loop's relation but for its slots -/
def names_Twins.Rel (W : World) (g i : Nat) (v : Value) (l : List (List UInt8)) : Prop :=
  (∃ D : DataW Unit, W.ownsMap Try.prog 9 (plainElem Try.prog 3) g i D ∧ Go.Proofs.Ytfpmbognpacidaa.XNamesPlain.Counts D l i) ∧ Kd.R (Kd.int .i64) 3 W g (fun k => k ≠ g) v (Go.Proofs.Ytfpmbognpacidaa.XNamesPlain.twn l i)
open Go.Proofs.Ytfpmbognpacidaa.XNamesPlain in
set_option maxRecDepth 100000 in
set_option maxHeartbeats 2000000 in
theorem names_Twins.calls (A0 : Option Addr) (c0 : Nat) (l0 : List ByteArray) (r : List Int) (w : World) (hr0 : Kd.C Kd.string w A0 l0.length l0) (hc0 : l0.length ≤ c0) (h : names_Twins.f l0 = some r) :
    Calls Try.prog 41 #[.slice A0 l0.length c0] w fun e w' => ∃ v0_ : Value, e = .returned v0_ ∧ Kd.R (Kd.int .i64) 3 w' w.heap.size (fun _ => True) v0_ r ∧ Below w.heap.size w w' := by
  unfold names_Twins.f at h
  split at h
  case isFalse => cases h
  case isTrue hlen =>
  split at h
  case isFalse => cases h
  case isTrue hall =>
  have HRR := Aside0.mk (Option.some.inj h)
  have HWF := Aside0.mk (List.all_eq_true.1 hall)
  have HR := Aside0.mk hr0
  clear h hall hr0
  have hmm := @run_makeMap Try.prog
  go_enter Try.func41, Try.ntmps41
  go_wp2_with fail
  go_loopg [3, 10] l0.length (fun kq v3' v10 wr' => ∃ (v3 : Value) (wr : World) (i : Nat), v3 = v3' ∧ wr = wr' ∧ Aside0 (l0.length - i = kq) ∧ Aside0 (i ≤ l0.length) ∧ v10 = .int .i64 (i : Int) ∧ Aside0 (names_Twins.Rel wr w.heap.size i v3 (l0.map bts)) ∧ Aside0 (Below w.heap.size w wr))
  case atStart => exact ⟨_, _, 0, rfl, rfl, ⟨rfl⟩, ⟨Nat.zero_le _⟩, rfl, ⟨⟨⟨_, World.ownsMap_made _ _ _ _, Counts.empty _⟩, Kd.R_nil _ _ _ _ _⟩⟩, ⟨(Below.refl _ _).alloc (Nat.le_refl _) _⟩⟩
  case round =>
    obtain ⟨v3, wr, i, rfl, rfl, HK, HI, rfl, HREL, HB⟩ := hrel
    by_cases hi : i < l0.length
    · have hlt : decide ((i : Int) < (l0.length : Int)) = true := decide_eq_true (by omega)
      have hC := Kd.C_below HR.out HB.out
      obtain ⟨ad, e1, hx0⟩ := Kd.at_string hC (i : Int) (by omega) (by omega)
      subst e1
      rw [Int.toNat_natCast] at hx0
      have hxl : rdOf ByteArray.empty l0 (i : Int) = l0[i] := by simp [rdOf, hi]
      have hmem : rdOf ByteArray.empty l0 (i : Int) ∈ l0 := by rw [hxl]; exact List.getElem_mem hi
      have hwf : (rdOf ByteArray.empty l0 (i : Int)).size ≤ maxLen := by have := HWF.out _ hmem; simp only [decide_eq_true_eq] at this; unfold maxLen; omega
      have hbx : bts (rdOf ByteArray.empty l0 (i : Int)) = (l0.map bts).getD i [] := by rw [hxl]; simp [List.getD, hi]
      have hkey := Go.WideMaps.keyOf_string_mk (P := Try.prog) Try.underlying9 hwf
      obtain ⟨⟨D, hD, hG⟩, hO⟩ := HREL.out
      have hts := twn_succ (l0.map bts) i
      have htl := twn_length (l0.map bts) i
      have hml : i < (l0.map bts).length := by rw [List.length_map]; exact hi
      have hG2 := hG.put hml
      have hcl := List.count_le_length (a := (l0.map bts).getD i []) (l := (l0.map bts).take i)
      rw [List.length_take, Nat.min_eq_left (by omega)] at hcl
      have hcm : (l0.map bts).getD i [] ∈ (l0.map bts).take i ↔ 0 < ((l0.map bts).take i).count ((l0.map bts).getD i []) := List.count_pos_iff.symm
      have hat1 := hG.2 ((l0.map bts).getD i [])
      have hat2 : (D.put (.string ((l0.map bts).getD i [])) (.lit (.int .i64 ((((l0.map bts).take i).count ((l0.map bts).getD i []) : Nat) + 1 : Int)))).atKey (.string ((l0.map bts).getD i [])) (.lit (.int .i64 0)) = _ := Go.Maps.atKey_put_same hG.1 (show WideAt.IsKeyLit (.string _) from trivial) _ _
      rw [← hbx] at hts hG2 hcl hcm hat1 hat2
      have HG := Aside0.mk hG
      generalize hxx : rdOf ByteArray.empty l0 (i : Int) = x at *
      generalize hcc : ((l0.map bts).take i).count (bts x) = cn at *
      have HTS := Aside0.mk hts
      have HG2 := Aside0.mk hG2
      have HKEY : Aside0 (Go.keyOf Try.prog 9 (.string x) = some (.string (bts x))) := ⟨hkey⟩
      have HAT1 := Aside0.mk hat1
      have HAT2 := Aside0.mk hat2
      have HO := Aside0.mk hO
      have HCM := Aside0.mk hcm
      have hwl : (Lit.int .i64 ((cn : Int) + 1)).wf = true := WalkArith.wf_i64 (by omega)
      have HWL := Aside0.mk hwl
      clear hmem hC hxl hwf hbx hkey hG hO hts hml hG2 hat1 hat2 hxx hcc hcm hwl HREL
      generalize hns : twn (l0.map bts) i = nums at *
      have HNS := Aside0.mk hns
      clear hns
      obtain ⟨A3, c3, e3⟩ := Kd.R_slice HO.out
      subst e3
      have hgl := Go.Proofs.Ytfpmbognpacidaa.XNumber.lt hD
      have HD := Aside0.mk hD
      by_cases hin : 0 < cn
      · have dt : decide ((1 : Int) < (cn : Int) + 1) = true := decide_eq_true (by omega)
        have hstep : Aside0 (twn (l0.map bts) (i + 1) = nums ++ [(i : Int)]) := ⟨by rw [HTS.out, if_pos (HCM.out.2 hin)]⟩
        go_wp2_with (first
          | (at_lookup; refine wpList_lookup_own_int _ rfl _ _ 104 rfl 9 3 .i64 names_Twins.law Try.underlying104 Try.underlying3 (names_Twins.zeroE _) w.heap.size i D rfl hD _ _ rfl HKEY.out ?_; intro c hat hwc; obtain rfl : c = _ := Go.Proofs.Ytfpmbognpacidaa.XNumber.inj (hat.symm.trans HAT1.out); clear hat)
          | (at_mapUpdate; refine wpList_mapUpdate_own _ rfl _ _ _ 104 rfl 9 3 names_Twins.law Try.underlying104 _ w.heap.size i _ rfl hD (by unfold maxLen; omega) _ _ _ rfl rfl HKEY.out _ [] (plainElem_int Try.underlying3 HWL.out) ?_; intro w1 hown1 hgrow1; clear hD)
          | (at_lookup; refine wpList_lookup_own_int _ rfl _ _ 104 rfl 9 3 .i64 names_Twins.law Try.underlying104 Try.underlying3 (names_Twins.zeroE _) w.heap.size (i + 1) _ rfl hown1 _ _ rfl HKEY.out ?_; intro c hat hwc; obtain rfl : c = _ := Go.Proofs.Ytfpmbognpacidaa.XNumber.inj (hat.symm.trans HAT2.out); clear hat)
          | ((with_reducible refine gate_builtin (b := .append) (xs := #[.tmp 23, .tmp 25]) rfl ?_); at_builtin; refine Kd.R_append (Kd.int .i64) (w0 := w) w.heap.size rfl (.tmp 23) (.tmp 25) 45 3 (.int .i64 0) 8 rfl Try.underlying45 names_Twins.info8 rfl (by decide) (by omega) (.slice A3 nums.length c3) nums (i : Int) [.int .i64 (i : Int)] (fun k => k ≠ w.heap.size) (fun _ => False) rfl rfl ?aP (fun _ hk => hk.elim) ?aF ?aO ?aB ?aS ?aL ?aK))
        case aP => exact rfl
        case aF => intro k hk e; have := hgrow1.size; omega
        case aO => exact Kd.R_grown HO.out hgrow1 (fun k hk e => hk (by injection e))
        case aB => exact HB.out.grown hgrow1 HB.out.size (fun j hj => by cases hj; exact Nat.le_refl _)
        case aS => exact Nat.le_trans HB.out.size hgrow1.size
        case aL => omega
        case aK =>
          intro v1 w3 ho hb hg hat
          have hO1 : Kd.R (Kd.int .i64) 3 w1 w.heap.size (fun k => k ≠ w.heap.size) (.slice A3 nums.length c3) nums := Kd.R_grown HO.out hgrow1 (fun k hk e => hk (by injection e))
          have hne : w3.heap[w.heap.size]? = w1.heap[w.heap.size]? := hg.block _ (Go.Proofs.Ytfpmbognpacidaa.XNumber.lt hown1) (fun e => (hO1.1 _ e.symm) rfl)
          have HREL2 : Aside0 (names_Twins.Rel w3 w.heap.size (i + 1) v1 (l0.map bts)) := ⟨⟨⟨_, Go.Proofs.Ytfpmbognpacidaa.XNumber.stay hown1 hne, HG2.out⟩, by rw [hstep.out]; exact ho⟩⟩
          have HB3 := Aside0.mk hb
          clear ho hb hg hat hne hO1 hown1 hgrow1
          go_wp2
          go_roundg (l0.length - (i + 1))
          case measure => have := HK.out; omega
          case rel => exact ⟨_, _, i + 1, rfl, rfl, ⟨rfl⟩, ⟨hi⟩, by go_num, HREL2, HB3⟩
      · have dt : decide ((1 : Int) < (cn : Int) + 1) = false := decide_eq_false (by omega)
        have hstep : Aside0 (twn (l0.map bts) (i + 1) = nums) := ⟨by rw [HTS.out, if_neg (fun h_ => hin (HCM.out.1 h_)), List.append_nil]⟩
        go_wp2_with (first
          | (at_lookup; refine wpList_lookup_own_int _ rfl _ _ 104 rfl 9 3 .i64 names_Twins.law Try.underlying104 Try.underlying3 (names_Twins.zeroE _) w.heap.size i D rfl hD _ _ rfl HKEY.out ?_; intro c hat hwc; obtain rfl : c = _ := Go.Proofs.Ytfpmbognpacidaa.XNumber.inj (hat.symm.trans HAT1.out); clear hat)
          | (at_mapUpdate; refine wpList_mapUpdate_own _ rfl _ _ _ 104 rfl 9 3 names_Twins.law Try.underlying104 _ w.heap.size i _ rfl hD (by unfold maxLen; omega) _ _ _ rfl rfl HKEY.out _ [] (plainElem_int Try.underlying3 HWL.out) ?_; intro w1 hown1 hgrow1; clear hD)
          | (at_lookup; refine wpList_lookup_own_int _ rfl _ _ 104 rfl 9 3 .i64 names_Twins.law Try.underlying104 Try.underlying3 (names_Twins.zeroE _) w.heap.size (i + 1) _ rfl hown1 _ _ rfl HKEY.out ?_; intro c hat hwc; obtain rfl : c = _ := Go.Proofs.Ytfpmbognpacidaa.XNumber.inj (hat.symm.trans HAT2.out); clear hat))
        have hO1 : Kd.R (Kd.int .i64) 3 w1 w.heap.size (fun k => k ≠ w.heap.size) (.slice A3 nums.length c3) nums := Kd.R_grown HO.out hgrow1 (fun k hk e => hk (by injection e))
        have HREL2 : Aside0 (names_Twins.Rel w1 w.heap.size (i + 1) (.slice A3 nums.length c3) (l0.map bts)) := ⟨⟨⟨_, hown1, HG2.out⟩, by rw [hstep.out]; exact hO1⟩⟩
        have HB3 : Aside0 (Below w.heap.size w w1) := ⟨HB.out.grown hgrow1 HB.out.size (fun j hj => by cases hj; exact Nat.le_refl _)⟩
        clear hO1 hown1 hgrow1
        go_roundg (l0.length - (i + 1))
        case measure => have := HK.out; omega
        case rel => exact ⟨_, _, i + 1, rfl, rfl, ⟨rfl⟩, ⟨hi⟩, by go_num, HREL2, HB3⟩
    · have hlt : decide ((i : Int) < (l0.length : Int)) = false := decide_eq_false (by omega)
      have hil : i = l0.length := by have := HI.out; omega
      have HO := Aside0.mk HREL.out.2
      rw [hil] at HO
      have hres : twn (l0.map bts) l0.length = r := HRR.out
      rw [hres] at HO
      clear hil hres
      go_wp2_with fail
      go_ret
      exact ⟨_, rfl, Kd.R_mono HO.out (fun _ _ => trivial), HB.out⟩


end Go.Proofs.Ytfpmbognpacidaa.XU
