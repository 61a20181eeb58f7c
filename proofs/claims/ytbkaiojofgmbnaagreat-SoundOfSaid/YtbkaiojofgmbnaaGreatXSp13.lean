-- written by wip/xprint.py out of the translation
import Derived.Test.YtbkaiojofgmbnaaGreatXShort
import Derived.Test.YtbkaiojofgmbnaaGreatXSp0
import Derived.Test.YtbkaiojofgmbnaaGreatXSp1
import Derived.Test.YtbkaiojofgmbnaaGreatXSp5
import Derived.Test.YtbkaiojofgmbnaaGreatXSp6
import Derived.Test.YtbkaiojofgmbnaaGreatXSp10
import Derived.Test.YtbkaiojofgmbnaaGreatXSp11
import Derived.Test.YtbkaiojofgmbnaaGreatXSp12
namespace Go.Proofs.YtbkaiojofgmbnaaGreat.XS
open Go.Proofs.YtbkaiojofgmbnaaGreat.XShort Go.Proofs.YtbkaiojofgmbnaaGreat.XReg Go.Proofs.YtbkaiojofgmbnaaGreat.XGrow Go.RowKit Go.Proofs.YtbkaiojofgmbnaaGreatW.PrintWords Go.Proofs.YtbkaiojofgmbnaaGreatW.PrintLast Go.Proofs.YtbkaiojofgmbnaaGreatW.PrintMore
attribute [local go_sem] max2_int min2_int max_two min_two max_three min_three max_four min_four   -- for this text's walks alone
set_option linter.unusedVariables false
set_option linter.unusedSimpArgs false

attribute [local go_sem high] eqA65
/-! ### semblanceref14_Broken: function 27 -/
-- USES semblance/semblanceref12.May
-- USES semblance/semblanceref14.item
-- USES semblance/semblanceref14.acts
-- USES semblance/semblanceref14.trans
/-- all lists of n places, one behind the other; each of them must answer -/
def brk_all {α : Type} : Nat → (Nat → Option (List α)) → Option (List α)
  | 0, _ => some []
  | n + 1, g => (brk_all n g).bind fun l => (g n).bind fun x => some (l ++ x)
theorem brk_mono {α : Type} {g g' : Nat → Option (List α)} (h : ∀ i, LeO (g i) (g' i)) : ∀ n, LeO (brk_all n g) (brk_all n g')
  | 0 => LeO.refl _
  | n + 1 => LeO.bind (brk_mono h n) (fun _ => LeO.bind (h n) (fun _ => LeO.refl _))
theorem brk_below {α : Type} {g : Nat → Option (List α)} {r : List α} : ∀ {n : Nat}, brk_all n g = some r → ∀ m, m ≤ n → ∃ l, brk_all m g = some l ∧ l.length ≤ r.length := by
  intro n
  induction n generalizing r with
  | zero => intro h m hm; have e : m = 0 := Nat.le_zero.1 hm; subst e; exact ⟨r, h, Nat.le_refl _⟩
  | succ n ih =>
    intro h m hm
    by_cases e : m = n + 1
    · subst e; exact ⟨r, h, Nat.le_refl _⟩
    · obtain ⟨l, hl, h⟩ := Option.bind_eq_some_iff.mp h
      obtain ⟨x, hx, h⟩ := Option.bind_eq_some_iff.mp h
      obtain rfl := Option.some.inj h
      obtain ⟨l', h1, h2⟩ := ih hl m (by omega)
      exact ⟨l', h1, by rw [List.length_append]; omega⟩
theorem brk_at {α : Type} {g : Nat → Option (List α)} {r l : List α} {n i : Nat} (h : brk_all n g = some r) (hi : i < n) (hl : brk_all i g = some l) : ∃ x, g i = some x ∧ l.length ≤ r.length := by
  obtain ⟨l', h1, h2⟩ := brk_below h (i + 1) hi
  obtain ⟨l2, h3, h1⟩ := Option.bind_eq_some_iff.mp h1
  obtain ⟨x, hx, h1⟩ := Option.bind_eq_some_iff.mp h1
  rw [hl] at h3
  obtain rfl := Option.some.inj h3
  obtain rfl := Option.some.inj h1
  exact ⟨x, hx, by rw [List.length_append] at h2; omega⟩
theorem brk_next {α : Type} {g : Nat → Option (List α)} {l : List α} {i : Nat} (hl : brk_all i g = some l) : ∀ x, g i = some x → brk_all (i + 1) g = some (l ++ x) := fun x hx => by
  show (brk_all i g).bind _ = _
  rw [hl, Option.bind_some, hx, Option.bind_some]
def semblanceref14_Broken.one (k : Nat) (a0 : ByteArray) (l1 : List ByteArray) (l2 : List (S50)) (l3 : List (S46)) (rule : Int) (i : Nat) (l : List (S54)) (m : Nat) : Option (List (S65)) :=
  (semblanceref14_trans.f k a0 l1 l2 l3 rule (rd_T54 l (m : Int)).f0 (rd_T54 l (m : Int)).f1 (rd_T54 l (m : Int)).f2 (rd_T54 l (m : Int)).f3).bind fun t => some (if t = true then [] else [⟨rule, (i : Int), (m : Int)⟩])
def semblanceref14_Broken.at_ (k : Nat) (a0 : ByteArray) (l1 : List ByteArray) (l2 : List (S50)) (l3 : List (S46)) (rule : Int) (i : Nat) : Option (List (S65)) :=
  if rule ≤ 5 then (semblanceref14_item.f k a0 l1 l2 l3 rule (i : Int)).bind fun t => some (if t = true then [] else [⟨rule, (i : Int), 0⟩])
  else if rule = 10 then (semblanceref14_acts.f k a0 l1 l2 l3 (rd_T46 l3 (i : Int)).f3 false).bind fun a => (semblanceref14_acts.f k a0 l1 l2 l3 (rd_T46 l3 (i : Int)).f4 false).bind fun b => some ((if a = true then [] else [⟨rule, (i : Int), 0⟩]) ++ (if b = true then [] else [⟨rule, (i : Int), 1⟩]))
  else brk_all (rd_T46 l3 (i : Int)).f5.length (semblanceref14_Broken.one k a0 l1 l2 l3 rule i (rd_T46 l3 (i : Int)).f5)
def semblanceref14_Broken.n (l1 : List ByteArray) (l2 : List (S50)) (l3 : List (S46)) (rule : Int) : Nat := if rule = 1 then l1.length else if (rule == 2 || rule == 3) = true then l2.length else l3.length
def semblanceref14_Broken.f (k : Nat) (a0 : ByteArray) (l1 : List ByteArray) (l2 : List (S50)) (l3 : List (S46)) (rule : Int) : Option (List (S65)) := (brk_all (semblanceref14_Broken.n l1 l2 l3 rule) (semblanceref14_Broken.at_ k a0 l1 l2 l3 rule)).bind fun l => if l.length ≤ 1000000 then some l else none
theorem semblanceref14_Broken.mono : ∀ a0 l1 l2 l3 rule k, LeO (semblanceref14_Broken.f k a0 l1 l2 l3 rule) (semblanceref14_Broken.f (k + 1) a0 l1 l2 l3 rule) := by
  intro a0 l1 l2 l3 rule k
  unfold semblanceref14_Broken.f
  exact LeO.bind (brk_mono (fun i => LeO.ite (LeO.bind (semblanceref14_item.mono _ _ _ _ _ _ k) (fun _ => LeO.refl _)) (LeO.ite (LeO.bind (semblanceref14_acts.mono _ _ _ _ _ _ k) (fun _ => LeO.bind (semblanceref14_acts.mono _ _ _ _ _ _ k) (fun _ => LeO.refl _))) (brk_mono (fun m => LeO.bind (semblanceref14_trans.mono _ _ _ _ _ _ _ _ _ k) (fun _ => LeO.refl _)) _))) _) (fun _ => LeO.refl _)
instance semblanceref14_Broken.lc : ∀ a0 l1 l2 l3 rule k, LeC (semblanceref14_Broken.f k a0 l1 l2 l3 rule) (semblanceref14_Broken.f (k + 1) a0 l1 l2 l3 rule) := fun a0 l1 l2 l3 rule k => ⟨semblanceref14_Broken.mono a0 l1 l2 l3 rule k⟩
theorem semblanceref14_Broken.info : (Tryz.prog.info? 65).map (fun i => (i.zero, i.size, i.bytes)) = some (some (.agg #[(.int .i64 0), (.int .i64 0), (.int .i64 0)]), 3, 24) := by kernel_rfl
set_option maxHeartbeats 16000000 in
set_option maxRecDepth 100000 in
open Go.Proofs.YtbkaiojofgmbnaaGreat.XReg in
theorem semblanceref14_Broken.calls (k : Nat) (a0_0 : ByteArray) (A0_1 : Option Addr) (c0_1 : Nat) (l0_1 : List ByteArray) (A0_2 : Option Addr) (c0_2 : Nat) (l0_2 : List (S50)) (A0_3 : Option Addr) (c0_3 : Nat) (l0_3 : List (S46)) (a1 : Int) (r : List (S65)) (w : World) (hr0_1 : Kd.C Kd.string w A0_1 l0_1.length l0_1) (hc0_1 : l0_1.length ≤ c0_1) (hr0_2 : Kd.C k50 w A0_2 l0_2.length l0_2) (hc0_2 : l0_2.length ≤ c0_2) (hr0_3 : Kd.C k46 w A0_3 l0_3.length l0_3) (hc0_3 : l0_3.length ≤ c0_3) (h : semblanceref14_Broken.f k a0_0 l0_1 l0_2 l0_3 a1 = some r) :
    Calls Tryz.prog 27 #[.agg #[.string a0_0, .slice A0_1 l0_1.length c0_1, .slice A0_2 l0_2.length c0_2, .slice A0_3 l0_3.length c0_3], .int .i64 a1] w fun e w' => ∃ v0_ : Value, e = .returned v0_ ∧ Kd.R k65 65 w' w.heap.size (fun _ => True) v0_ r ∧ Below w.heap.size w w' := by
  unfold semblanceref14_Broken.f at h
  obtain ⟨fl, hfl, h⟩ := Option.bind_eq_some_iff.mp h
  split at h
  case isFalse => cases h
  case isTrue hlen =>
  obtain rfl := Option.some.inj h
  have hm1 := Kd.C_max hr0_1
  have hm2 := Kd.C_max hr0_2
  have hm3 := Kd.C_max hr0_3
  have HR1 := Aside0.mk hr0_1
  have HR2 := Aside0.mk hr0_2
  have HR3 := Aside0.mk hr0_3
  have HC := Aside0.mk (And.intro hc0_1 (And.intro hc0_2 hc0_3))
  have HFL := Aside0.mk hfl
  have HLEN := Aside0.mk hlen
  have hu2 := Tryz.underlying26
  have hu3 := Tryz.underlying65
  have hu4 := Tryz.underlying46
  have hu5 := Tryz.underlying54
  have HB := Aside0.mk (Below.refl w.heap.size w)
  obtain ⟨C, hC⟩ : ∃ C, C = w.heap.size := ⟨_, rfl⟩
  clear h hfl hlen hr0_1 hr0_2 hr0_3 hc0_1 hc0_2 hc0_3
  go_enter Tryz.func27, Tryz.ntmps27
  go_upto_if 15 with (first | ((with_reducible refine gate_dst (N := 2) rfl ?_); refine box_event ?hg (N := 2) ?hd (cs := #[.string a0_0, .slice A0_1 l0_1.length c0_1, .slice A0_2 l0_2.length c0_2, .slice A0_3 l0_3.length c0_3]) (t := 26) ?hr ?_; (case hd => rfl); (case hg => rfl); (case hr => first | (go_simp; done) | (go_simp; rfl)); intro g2 hg u1 hbox hb; have HK := Aside0.mk hbox; have HB0 := HB; clear HB; have HB := Aside0.mk (below_step HB0.out hb); clear HB0 hb hbox hg) | ((with_reducible refine gate_dst (N := 10) rfl ?_); refine Kd.R_lit k65 _ 65 ?hg (N := 10) ?hd (xs := ([] : List (S65))) (inner := []) (ok := fun _ => True) (okp := fun _ => True) ?hr ?hp (fun _ hk => hk) trivial (Below.refl _ _) (Nat.le_refl _) (by simp) ?_; (case hd => rfl); (case hg => rfl); (case hr => first | (go_simp; done) | (go_simp; rfl)); (case hp => exact (Reps.none _ _)); intro v0 w5 ho6 hb hg_ hnew_; clear hg_ hnew_; have HO := Aside0.mk (Kd.R_lower ho6 (below_size HB.out)); have HK0 := HK; clear HK; have HK := Aside0.mk (blk_below HK0.out hb); have HB0 := HB; clear HB; have HB := Aside0.mk (below_step HB0.out hb); clear HK0 HB0 hb ho6; obtain ⟨hd0, hd1, hd2, hd3⟩ := cz4_ HK.out))
  obtain ⟨n, hn⟩ : ∃ n, semblanceref14_Broken.n l0_1 l0_2 l0_3 a1 = n := ⟨_, rfl⟩
  have HN := Aside0.mk hn
  rw [hn] at HFL
  clear hn
  obtain ⟨n1, hn1⟩ : ∃ n1, (if a1 = 1 then l0_1.length else l0_3.length) = n1 := ⟨_, rfl⟩
  have HN1 := Aside0.mk hn1
  clear hn1
  go_cut [6] (fun v6 wc => v6 = .int .i64 (n1 : Int) ∧ Aside0 (Kd.R k65 65 wc w.heap.size (fun _ => True) v0 []) ∧ Aside0 (wc.heap[g2]? = some (.cells #[.string a0_0, .slice A0_1 l0_1.length c0_1, .slice A0_2 l0_2.length c0_2, .slice A0_3 l0_3.length c0_3] 26 (0, 0))) ∧ Aside0 (Below w.heap.size w wc))
  case first =>
    by_cases d1 : a1 = 1
    · have d1b : (a1 == 1) = true := beq_iff_eq.mpr d1
      have HD1 := Aside0.mk d1
      clear d1
      go_wp2
      go_meet
      case rel => exact ⟨by rw [← HN1.out, if_pos HD1.out], HO, HK, HB⟩
    · have d1b : (a1 == 1) = false := beq_eq_false_iff_ne.mpr d1
      have HD1 := Aside0.mk d1
      clear d1
      go_wp2
      go_meet
      case rel => exact ⟨by rw [← HN1.out, if_neg HD1.out], HO, HK, HB⟩
  case rest =>
    clear HO HK HB hd0 hd1 hd2 hd3
    obtain ⟨rfl, HO, HK, HB⟩ := hcut
    go_upto_region 5 with (fail)
    go_cut [24] (fun v24 wc => v24 = .bool (a1 == 2 || a1 == 3) ∧ Aside0 (Kd.R k65 65 wc w.heap.size (fun _ => True) v0 []) ∧ Aside0 (wc.heap[g2]? = some (.cells #[.string a0_0, .slice A0_1 l0_1.length c0_1, .slice A0_2 l0_2.length c0_2, .slice A0_3 l0_3.length c0_3] 26 (0, 0))) ∧ Aside0 (Below w.heap.size w wc))
    case first =>
      cases q2 : (a1 == 2) <;> cases q3 : (a1 == 3) <;>
        (go_wp2
         go_meet
         case rel => exact ⟨by rw [q2, q3]; rfl, HO, HK, HB⟩)
    case rest =>
      clear HO HK HB
      obtain ⟨rfl, HO, HK, HB⟩ := hcut
      obtain ⟨hd0, hd1, hd2, hd3⟩ := cz4_ HK.out
      go_upto_if 24 with (fail)
      go_cut [6] (fun v6 wc => v6 = .int .i64 (n : Int) ∧ Aside0 (Kd.R k65 65 wc w.heap.size (fun _ => True) v0 []) ∧ Aside0 (wc.heap[g2]? = some (.cells #[.string a0_0, .slice A0_1 l0_1.length c0_1, .slice A0_2 l0_2.length c0_2, .slice A0_3 l0_3.length c0_3] 26 (0, 0))) ∧ Aside0 (Below w.heap.size w wc))
      case first =>
        cases q : (a1 == 2 || a1 == 3) with
        | true =>
          have HQ := Aside0.mk q
          go_wp2
          go_meet
          case rel => exact ⟨by rw [← HN.out]; unfold semblanceref14_Broken.n; rw [if_neg (fun e => by have h1 := HQ.out; rw [e] at h1; exact absurd h1 (by decide)), if_pos HQ.out], HO, HK, HB⟩
        | false =>
          have HQ := Aside0.mk q
          go_wp2
          go_meet
          case rel => exact ⟨by rw [← HN.out]; unfold semblanceref14_Broken.n; rw [if_neg (show ¬ (a1 == 2 || a1 == 3) = true by rw [HQ.out]; decide), HN1.out], HO, HK, HB⟩
      case rest =>
        clear HO HK HB hd0 hd1 hd2 hd3
        obtain ⟨rfl, HO, HK, HB⟩ := hcut
        go_wp2_with fail
        go_loopg [5, 7] n (fun kq v5' v7 wr' => ∃ (v5 : Value) (wr : World) (i : Nat) (ol : List (S65)), v5 = v5' ∧ wr = wr' ∧ Aside0 (n - i = kq) ∧ Aside0 (i ≤ n) ∧ v7 = .int .i64 (i : Int) ∧ Aside0 (brk_all i (semblanceref14_Broken.at_ k a0_0 l0_1 l0_2 l0_3 a1) = some ol) ∧ Aside0 (Kd.R k65 65 wr w.heap.size (fun _ => True) v5 ol) ∧ Aside0 (wr.heap[g2]? = some (.cells #[.string a0_0, .slice A0_1 l0_1.length c0_1, .slice A0_2 l0_2.length c0_2, .slice A0_3 l0_3.length c0_3] 26 (0, 0))) ∧ Aside0 (Below w.heap.size w wr))
        case atStart => exact ⟨_, _, 0, [], rfl, rfl, ⟨rfl⟩, ⟨Nat.zero_le _⟩, rfl, ⟨rfl⟩, HO, HK, HB⟩
        case round =>
          obtain ⟨v5, wr, i, ol, rfl, rfl, HKQ, HI, rfl, HOL, HO, HK, HB⟩ := hrel
          obtain ⟨hd0, hd1, hd2, hd3⟩ := cz4_ HK.out
          have hnb : n ≤ 9223372036854775807 := by
            rw [← HN.out]; unfold semblanceref14_Broken.n; split
            · exact hm1
            · split
              · exact hm2
              · exact hm3
          by_cases hi : i < n
          · have hlt : decide ((i : Int) < (n : Int)) = true := decide_eq_true (by omega)
            obtain ⟨xx, hat, hlo⟩ := brk_at HFL.out hi HOL.out
            have HLO := Aside0.mk (Nat.le_trans hlo HLEN.out)
            have HNX := Aside0.mk (brk_next HOL.out)
            obtain ⟨A5, c5, rfl⟩ := Kd.R_slice HO.out
            clear hlo
            by_cases d5 : a1 ≤ 5
            · have d5b : decide (a1 ≤ 5) = true := decide_eq_true d5
              unfold semblanceref14_Broken.at_ at hat
              rw [if_pos d5] at hat
              obtain ⟨t, ht, hat⟩ := Option.bind_eq_some_iff.mp hat
              have HT := Aside0.mk ht
              have HAT : Aside0 (semblanceref14_Broken.at_ k a0_0 l0_1 l0_2 l0_3 a1 i = some (if t = true then [] else [⟨a1, (i : Int), 0⟩])) := ⟨by unfold semblanceref14_Broken.at_; rw [if_pos d5, HT.out]; rfl⟩
              clear d5 hat ht
              cases t with
              | true =>
                go_wp2_with (first | (go_at_call 57; (with_reducible refine (semblanceref14_item.calls k a0_0 A0_1 c0_1 l0_1 A0_2 c0_2 l0_2 A0_3 c0_3 l0_3 a1 (i : Int) true _ (Kd.C_below HR1.out HB.out) HC.out.1 (Kd.C_below HR2.out HB.out) HC.out.2.1 (Kd.C_below HR3.out HB.out) HC.out.2.2 HT.out).mono ?_); rintro e u3 ⟨rfl, hb2⟩; have HO3 := Aside0.mk (Kd.R_below HO.out hb2); have HB3 := Aside0.mk (below_step HB.out hb2); have HK3 := Aside0.mk (blk_below HK.out hb2); obtain ⟨hd0, hd1, hd2, hd3⟩ := cz4_ HK3.out; clear hb2))
                go_roundg (n - (i + 1))
                case measure => have := HKQ.out; omega
                case rel => exact ⟨_, _, i + 1, _, rfl, rfl, ⟨rfl⟩, ⟨hi⟩, by go_num, ⟨HNX.out _ (HAT.out)⟩, ⟨by simpa using HO3.out⟩, HK3, HB3⟩
              | false =>
                go_wp2_with (first | (go_at_call 57; (with_reducible refine (semblanceref14_item.calls k a0_0 A0_1 c0_1 l0_1 A0_2 c0_2 l0_2 A0_3 c0_3 l0_3 a1 (i : Int) false _ (Kd.C_below HR1.out HB.out) HC.out.1 (Kd.C_below HR2.out HB.out) HC.out.2.1 (Kd.C_below HR3.out HB.out) HC.out.2.2 HT.out).mono ?_); rintro e u3 ⟨rfl, hb2⟩; have HO3 := Aside0.mk (Kd.R_below HO.out hb2); have HB3 := Aside0.mk (below_step HB.out hb2); have HK3 := Aside0.mk (blk_below HK.out hb2); obtain ⟨hd0, hd1, hd2, hd3⟩ := cz4_ HK3.out; clear hb2) | ((with_reducible refine gate_builtin (b := .append) (xs := #[.tmp 40, .tmp 44]) rfl ?_); at_builtin; refine Kd.R_append k65 (w0 := w) w.heap.size rfl (.tmp 40) (.tmp 44) 29 65 (.agg #[.int .i64 0, .int .i64 0, .int .i64 0]) 24 rfl Tryz.underlying29 semblanceref14_Broken.info rfl (by decide) (by omega) _ (ol) (⟨a1, (i : Int), 0⟩ : S65) [.int .i64 a1, .int .i64 (i : Int), .int .i64 0] (fun _ => True) (fun _ => False) rfl rfl ?aP (fun _ hk => hk.elim) ?aF ?aO ?aB ?aS ?aL ?_; (case aP => exact k65_mkM _ _ _ (⟨a1, (i : Int), 0⟩ : S65)); (case aF => exact (fun _ _ => trivial)); (case aO => exact HO3.out); (case aB => exact HB3.out); (case aS => exact below_size HB3.out); (case aL => have := HLO.out; (try simp only [List.length_append, List.length_cons, List.length_nil]); omega); intro v1 w3 ho hb hg hat; obtain ⟨A6, c6, rfl⟩ := Kd.R_slice ho; (try simp only [List.length_append, List.length_cons, List.length_nil, Nat.zero_add] at ho); have HK4 := Aside0.mk (blk_grown HK3.out hg (Kd.R_ne HO3.out HK3.out (by decide))); have HO4 := Aside0.mk ho; have HB4 := Aside0.mk hb; obtain ⟨hd0, hd1, hd2, hd3⟩ := cz4_ HK4.out; clear ho hb hg hat))
                go_roundg (n - (i + 1))
                case measure => have := HKQ.out; omega
                case rel => exact ⟨_, _, i + 1, _, rfl, rfl, ⟨rfl⟩, ⟨hi⟩, by go_num, ⟨HNX.out _ (HAT.out)⟩, ⟨by simpa using HO4.out⟩, HK4, HB4⟩
            · have d5b : decide (a1 ≤ 5) = false := decide_eq_false d5
              have hnl : n = l0_3.length := by
                rw [← HN.out]; unfold semblanceref14_Broken.n
                rw [if_neg (by omega), if_neg]
                intro e
                rw [Bool.or_eq_true] at e
                rcases e with e | e
                · have := beq_iff_eq.1 e; omega
                · have := beq_iff_eq.1 e; omega
              obtain ⟨ad, A3, c3, A4, c4, A5x, c5x, e1, hx0, hx1, hx2, hx3, hx4, hx5, hl3, hi3, hl4, hi4, hl5, hi5⟩ := at_T46 HR3.out (i : Int) (by omega) (by omega)
              subst e1
              rw [Int.toNat_natCast] at hx0 hx1 hx2 hx3 hx4 hx5
              replace hx0 := pw_cell_below HB.out hx0
              replace hx1 := pw_cell_below HB.out hx1
              replace hx2 := pw_cell_below HB.out hx2
              replace hx3 := pw_cell_below HB.out hx3
              replace hx4 := pw_cell_below HB.out hx4
              replace hx5 := pw_cell_below HB.out hx5
              have HI3 := Aside0.mk hi3
              have HI4 := Aside0.mk hi4
              have HI5 := Aside0.mk hi5
              have hi9 : i < l0_3.length := by omega
              have hm5 := Kd.C_max hi5
              have hat0 := hat
              have HATO := Aside0.mk hat
              unfold semblanceref14_Broken.at_ at hat
              rw [if_neg d5] at hat
              clear hat0 hi3 hi4 hi5 hnl
              generalize hxx : rd_T46 l0_3 (i : Int) = x at *
              by_cases d10 : a1 = 10
              · have d10b : (a1 == 10) = true := beq_iff_eq.mpr d10
                rw [if_pos d10] at hat
                obtain ⟨ta, hta, hat⟩ := Option.bind_eq_some_iff.mp hat
                obtain ⟨tb, htb, hat⟩ := Option.bind_eq_some_iff.mp hat
                have HTA := Aside0.mk hta
                have HTB := Aside0.mk htb
                have hat := Option.some.inj hat
                have HAT : Aside0 (semblanceref14_Broken.at_ k a0_0 l0_1 l0_2 l0_3 a1 i = some ((if ta = true then [] else [⟨a1, (i : Int), 0⟩]) ++ (if tb = true then [] else [⟨a1, (i : Int), 1⟩]))) := ⟨by rw [HATO.out, ← hat]⟩
                clear d5 d10 hta htb hat HATO hxx
                cases ta with
                | true =>
                  cases tb with
                  | true =>
                    go_wp2_with (first | ((with_reducible refine gate_dst (N := 8) rfl ?_); refine box_event ?hg (N := 8) ?hd (cs := #[.string (⟨#[]⟩ : ByteArray), .int .i64 0, .int .i64 0, .slice none 0 0, .slice none 0 0, .slice none 0 0]) (t := 46) ?hr ?_; (case hd => rfl); (case hg => rfl); (case hr => first | (go_simp; done) | (go_simp; rfl)); intro g hg u1 hbox hb; have HGE := Aside0.mk (Nat.le_of_eq hg.symm); clear hg) | (refine box_put (vs := #[.string x.f0, .int .i64 x.f1, .int .i64 x.f2, .slice A3 x.f3.length c3, .slice A4 x.f4.length c4, .slice A5x x.f5.length c5x]) rfl rfl (.tmp 8) (.tmp 50) rfl rfl rfl hbox (by kernel_rfl) rfl (by simp [Value.oneCell']) hb HGE.out ?_; intro u2 hbox2 hb2; have HX2 := Aside0.mk hbox2; obtain ⟨hz0, hz1, hz2, hz3, hz4, hz5⟩ := cz6_ hbox2; have HO2 := Aside0.mk (Kd.R_below HO.out hb2); have HB2 := Aside0.mk (below_step HB.out hb2); have HK2 := Aside0.mk (blk_below HK.out hb2); obtain ⟨hd0, hd1, hd2, hd3⟩ := cz4_ HK2.out; clear hbox hb hbox2 hb2) | (go_at_call 58; (with_reducible refine (semblanceref14_acts.calls k a0_0 A0_1 c0_1 l0_1 A0_2 c0_2 l0_2 _ c0_3 l0_3 A3 c3 x.f3 false true _ (Kd.C_below HR1.out HB2.out) HC.out.1 (Kd.C_below HR2.out HB2.out) HC.out.2.1 (Kd.C_below HR3.out HB2.out) HC.out.2.2 (Kd.C_below HI3.out HB2.out) hl3 HTA.out).mono ?_); rintro e u3 ⟨rfl, hb2⟩; have HO3 := Aside0.mk (Kd.R_below HO2.out hb2); have HB3 := Aside0.mk (below_step HB2.out hb2); have HK3 := Aside0.mk (blk_below HK2.out hb2); obtain ⟨hd0, hd1, hd2, hd3⟩ := cz4_ HK3.out; have HX3 := Aside0.mk (blk_below HX2.out hb2); obtain ⟨hz0, hz1, hz2, hz3, hz4, hz5⟩ := cz6_ HX3.out; clear hb2) | (go_at_call 58; (with_reducible refine (semblanceref14_acts.calls k a0_0 A0_1 c0_1 l0_1 A0_2 c0_2 l0_2 _ c0_3 l0_3 A4 c4 x.f4 false true _ (Kd.C_below HR1.out HB3.out) HC.out.1 (Kd.C_below HR2.out HB3.out) HC.out.2.1 (Kd.C_below HR3.out HB3.out) HC.out.2.2 (Kd.C_below HI4.out HB3.out) hl4 HTB.out).mono ?_); rintro e u5 ⟨rfl, hb2⟩; have HO5 := Aside0.mk (Kd.R_below HO3.out hb2); have HB5 := Aside0.mk (below_step HB3.out hb2); have HK5 := Aside0.mk (blk_below HK3.out hb2); obtain ⟨hd0, hd1, hd2, hd3⟩ := cz4_ HK5.out; have HX5 := Aside0.mk (blk_below HX3.out hb2); obtain ⟨hz0, hz1, hz2, hz3, hz4, hz5⟩ := cz6_ HX5.out; clear hb2))
                    go_roundg (n - (i + 1))
                    case measure => have := HKQ.out; omega
                    case rel => exact ⟨_, _, i + 1, _, rfl, rfl, ⟨rfl⟩, ⟨hi⟩, by go_num, ⟨HNX.out _ (HAT.out)⟩, ⟨by simpa using HO5.out⟩, HK5, HB5⟩
                  | false =>
                    go_wp2_with (first | ((with_reducible refine gate_dst (N := 8) rfl ?_); refine box_event ?hg (N := 8) ?hd (cs := #[.string (⟨#[]⟩ : ByteArray), .int .i64 0, .int .i64 0, .slice none 0 0, .slice none 0 0, .slice none 0 0]) (t := 46) ?hr ?_; (case hd => rfl); (case hg => rfl); (case hr => first | (go_simp; done) | (go_simp; rfl)); intro g hg u1 hbox hb; have HGE := Aside0.mk (Nat.le_of_eq hg.symm); clear hg) | (refine box_put (vs := #[.string x.f0, .int .i64 x.f1, .int .i64 x.f2, .slice A3 x.f3.length c3, .slice A4 x.f4.length c4, .slice A5x x.f5.length c5x]) rfl rfl (.tmp 8) (.tmp 50) rfl rfl rfl hbox (by kernel_rfl) rfl (by simp [Value.oneCell']) hb HGE.out ?_; intro u2 hbox2 hb2; have HX2 := Aside0.mk hbox2; obtain ⟨hz0, hz1, hz2, hz3, hz4, hz5⟩ := cz6_ hbox2; have HO2 := Aside0.mk (Kd.R_below HO.out hb2); have HB2 := Aside0.mk (below_step HB.out hb2); have HK2 := Aside0.mk (blk_below HK.out hb2); obtain ⟨hd0, hd1, hd2, hd3⟩ := cz4_ HK2.out; clear hbox hb hbox2 hb2) | (go_at_call 58; (with_reducible refine (semblanceref14_acts.calls k a0_0 A0_1 c0_1 l0_1 A0_2 c0_2 l0_2 _ c0_3 l0_3 A3 c3 x.f3 false true _ (Kd.C_below HR1.out HB2.out) HC.out.1 (Kd.C_below HR2.out HB2.out) HC.out.2.1 (Kd.C_below HR3.out HB2.out) HC.out.2.2 (Kd.C_below HI3.out HB2.out) hl3 HTA.out).mono ?_); rintro e u3 ⟨rfl, hb2⟩; have HO3 := Aside0.mk (Kd.R_below HO2.out hb2); have HB3 := Aside0.mk (below_step HB2.out hb2); have HK3 := Aside0.mk (blk_below HK2.out hb2); obtain ⟨hd0, hd1, hd2, hd3⟩ := cz4_ HK3.out; have HX3 := Aside0.mk (blk_below HX2.out hb2); obtain ⟨hz0, hz1, hz2, hz3, hz4, hz5⟩ := cz6_ HX3.out; clear hb2) | (go_at_call 58; (with_reducible refine (semblanceref14_acts.calls k a0_0 A0_1 c0_1 l0_1 A0_2 c0_2 l0_2 _ c0_3 l0_3 A4 c4 x.f4 false false _ (Kd.C_below HR1.out HB3.out) HC.out.1 (Kd.C_below HR2.out HB3.out) HC.out.2.1 (Kd.C_below HR3.out HB3.out) HC.out.2.2 (Kd.C_below HI4.out HB3.out) hl4 HTB.out).mono ?_); rintro e u5 ⟨rfl, hb2⟩; have HO5 := Aside0.mk (Kd.R_below HO3.out hb2); have HB5 := Aside0.mk (below_step HB3.out hb2); have HK5 := Aside0.mk (blk_below HK3.out hb2); obtain ⟨hd0, hd1, hd2, hd3⟩ := cz4_ HK5.out; have HX5 := Aside0.mk (blk_below HX3.out hb2); obtain ⟨hz0, hz1, hz2, hz3, hz4, hz5⟩ := cz6_ HX5.out; clear hb2) | ((with_reducible refine gate_builtin (b := .append) (xs := #[.tmp 69, .tmp 73]) rfl ?_); at_builtin; refine Kd.R_append k65 (w0 := w) w.heap.size rfl (.tmp 69) (.tmp 73) 29 65 (.agg #[.int .i64 0, .int .i64 0, .int .i64 0]) 24 rfl Tryz.underlying29 semblanceref14_Broken.info rfl (by decide) (by omega) _ (ol) (⟨a1, (i : Int), 1⟩ : S65) [.int .i64 a1, .int .i64 (i : Int), .int .i64 1] (fun _ => True) (fun _ => False) rfl rfl ?aP (fun _ hk => hk.elim) ?aF ?aO ?aB ?aS ?aL ?_; (case aP => exact k65_mkM _ _ _ (⟨a1, (i : Int), 1⟩ : S65)); (case aF => exact (fun _ _ => trivial)); (case aO => exact HO5.out); (case aB => exact HB5.out); (case aS => exact below_size HB5.out); (case aL => have := HLO.out; (try simp only [List.length_append, List.length_cons, List.length_nil]); omega); intro v1 w3 ho hb hg hat; obtain ⟨A6, c6, rfl⟩ := Kd.R_slice ho; (try simp only [List.length_append, List.length_cons, List.length_nil, Nat.zero_add] at ho); have HK6 := Aside0.mk (blk_grown HK5.out hg (Kd.R_ne HO5.out HK5.out (by decide))); have HX6 := Aside0.mk (blk_grown HX5.out hg (Kd.R_ne HO5.out HX5.out (by decide))); obtain ⟨hz0, hz1, hz2, hz3, hz4, hz5⟩ := cz6_ HX6.out; have HO6 := Aside0.mk ho; have HB6 := Aside0.mk hb; obtain ⟨hd0, hd1, hd2, hd3⟩ := cz4_ HK6.out; clear ho hb hg hat))
                    go_roundg (n - (i + 1))
                    case measure => have := HKQ.out; omega
                    case rel => exact ⟨_, _, i + 1, _, rfl, rfl, ⟨rfl⟩, ⟨hi⟩, by go_num, ⟨HNX.out _ (HAT.out)⟩, ⟨by simpa using HO6.out⟩, HK6, HB6⟩
                | false =>
                  cases tb with
                  | true =>
                    go_wp2_with (first | ((with_reducible refine gate_dst (N := 8) rfl ?_); refine box_event ?hg (N := 8) ?hd (cs := #[.string (⟨#[]⟩ : ByteArray), .int .i64 0, .int .i64 0, .slice none 0 0, .slice none 0 0, .slice none 0 0]) (t := 46) ?hr ?_; (case hd => rfl); (case hg => rfl); (case hr => first | (go_simp; done) | (go_simp; rfl)); intro g hg u1 hbox hb; have HGE := Aside0.mk (Nat.le_of_eq hg.symm); clear hg) | (refine box_put (vs := #[.string x.f0, .int .i64 x.f1, .int .i64 x.f2, .slice A3 x.f3.length c3, .slice A4 x.f4.length c4, .slice A5x x.f5.length c5x]) rfl rfl (.tmp 8) (.tmp 50) rfl rfl rfl hbox (by kernel_rfl) rfl (by simp [Value.oneCell']) hb HGE.out ?_; intro u2 hbox2 hb2; have HX2 := Aside0.mk hbox2; obtain ⟨hz0, hz1, hz2, hz3, hz4, hz5⟩ := cz6_ hbox2; have HO2 := Aside0.mk (Kd.R_below HO.out hb2); have HB2 := Aside0.mk (below_step HB.out hb2); have HK2 := Aside0.mk (blk_below HK.out hb2); obtain ⟨hd0, hd1, hd2, hd3⟩ := cz4_ HK2.out; clear hbox hb hbox2 hb2) | (go_at_call 58; (with_reducible refine (semblanceref14_acts.calls k a0_0 A0_1 c0_1 l0_1 A0_2 c0_2 l0_2 _ c0_3 l0_3 A3 c3 x.f3 false false _ (Kd.C_below HR1.out HB2.out) HC.out.1 (Kd.C_below HR2.out HB2.out) HC.out.2.1 (Kd.C_below HR3.out HB2.out) HC.out.2.2 (Kd.C_below HI3.out HB2.out) hl3 HTA.out).mono ?_); rintro e u3 ⟨rfl, hb2⟩; have HO3 := Aside0.mk (Kd.R_below HO2.out hb2); have HB3 := Aside0.mk (below_step HB2.out hb2); have HK3 := Aside0.mk (blk_below HK2.out hb2); obtain ⟨hd0, hd1, hd2, hd3⟩ := cz4_ HK3.out; have HX3 := Aside0.mk (blk_below HX2.out hb2); obtain ⟨hz0, hz1, hz2, hz3, hz4, hz5⟩ := cz6_ HX3.out; clear hb2) | ((with_reducible refine gate_builtin (b := .append) (xs := #[.tmp 58, .tmp 62]) rfl ?_); at_builtin; refine Kd.R_append k65 (w0 := w) w.heap.size rfl (.tmp 58) (.tmp 62) 29 65 (.agg #[.int .i64 0, .int .i64 0, .int .i64 0]) 24 rfl Tryz.underlying29 semblanceref14_Broken.info rfl (by decide) (by omega) _ (ol) (⟨a1, (i : Int), 0⟩ : S65) [.int .i64 a1, .int .i64 (i : Int), .int .i64 0] (fun _ => True) (fun _ => False) rfl rfl ?aP (fun _ hk => hk.elim) ?aF ?aO ?aB ?aS ?aL ?_; (case aP => exact k65_mkM _ _ _ (⟨a1, (i : Int), 0⟩ : S65)); (case aF => exact (fun _ _ => trivial)); (case aO => exact HO3.out); (case aB => exact HB3.out); (case aS => exact below_size HB3.out); (case aL => have := HLO.out; (try simp only [List.length_append, List.length_cons, List.length_nil]); omega); intro v1 w3 ho hb hg hat; obtain ⟨A6, c6, rfl⟩ := Kd.R_slice ho; (try simp only [List.length_append, List.length_cons, List.length_nil, Nat.zero_add] at ho); have HK4 := Aside0.mk (blk_grown HK3.out hg (Kd.R_ne HO3.out HK3.out (by decide))); have HX4 := Aside0.mk (blk_grown HX3.out hg (Kd.R_ne HO3.out HX3.out (by decide))); obtain ⟨hz0, hz1, hz2, hz3, hz4, hz5⟩ := cz6_ HX4.out; have HO4 := Aside0.mk ho; have HB4 := Aside0.mk hb; obtain ⟨hd0, hd1, hd2, hd3⟩ := cz4_ HK4.out; clear ho hb hg hat) | (go_at_call 58; (with_reducible refine (semblanceref14_acts.calls k a0_0 A0_1 c0_1 l0_1 A0_2 c0_2 l0_2 _ c0_3 l0_3 A4 c4 x.f4 false true _ (Kd.C_below HR1.out HB4.out) HC.out.1 (Kd.C_below HR2.out HB4.out) HC.out.2.1 (Kd.C_below HR3.out HB4.out) HC.out.2.2 (Kd.C_below HI4.out HB4.out) hl4 HTB.out).mono ?_); rintro e u5 ⟨rfl, hb2⟩; have HO5 := Aside0.mk (Kd.R_below HO4.out hb2); have HB5 := Aside0.mk (below_step HB4.out hb2); have HK5 := Aside0.mk (blk_below HK4.out hb2); obtain ⟨hd0, hd1, hd2, hd3⟩ := cz4_ HK5.out; have HX5 := Aside0.mk (blk_below HX4.out hb2); obtain ⟨hz0, hz1, hz2, hz3, hz4, hz5⟩ := cz6_ HX5.out; clear hb2))
                    go_roundg (n - (i + 1))
                    case measure => have := HKQ.out; omega
                    case rel => exact ⟨_, _, i + 1, _, rfl, rfl, ⟨rfl⟩, ⟨hi⟩, by go_num, ⟨HNX.out _ (HAT.out)⟩, ⟨by simpa using HO5.out⟩, HK5, HB5⟩
                  | false =>
                    go_wp2_with (first | ((with_reducible refine gate_dst (N := 8) rfl ?_); refine box_event ?hg (N := 8) ?hd (cs := #[.string (⟨#[]⟩ : ByteArray), .int .i64 0, .int .i64 0, .slice none 0 0, .slice none 0 0, .slice none 0 0]) (t := 46) ?hr ?_; (case hd => rfl); (case hg => rfl); (case hr => first | (go_simp; done) | (go_simp; rfl)); intro g hg u1 hbox hb; have HGE := Aside0.mk (Nat.le_of_eq hg.symm); clear hg) | (refine box_put (vs := #[.string x.f0, .int .i64 x.f1, .int .i64 x.f2, .slice A3 x.f3.length c3, .slice A4 x.f4.length c4, .slice A5x x.f5.length c5x]) rfl rfl (.tmp 8) (.tmp 50) rfl rfl rfl hbox (by kernel_rfl) rfl (by simp [Value.oneCell']) hb HGE.out ?_; intro u2 hbox2 hb2; have HX2 := Aside0.mk hbox2; obtain ⟨hz0, hz1, hz2, hz3, hz4, hz5⟩ := cz6_ hbox2; have HO2 := Aside0.mk (Kd.R_below HO.out hb2); have HB2 := Aside0.mk (below_step HB.out hb2); have HK2 := Aside0.mk (blk_below HK.out hb2); obtain ⟨hd0, hd1, hd2, hd3⟩ := cz4_ HK2.out; clear hbox hb hbox2 hb2) | (go_at_call 58; (with_reducible refine (semblanceref14_acts.calls k a0_0 A0_1 c0_1 l0_1 A0_2 c0_2 l0_2 _ c0_3 l0_3 A3 c3 x.f3 false false _ (Kd.C_below HR1.out HB2.out) HC.out.1 (Kd.C_below HR2.out HB2.out) HC.out.2.1 (Kd.C_below HR3.out HB2.out) HC.out.2.2 (Kd.C_below HI3.out HB2.out) hl3 HTA.out).mono ?_); rintro e u3 ⟨rfl, hb2⟩; have HO3 := Aside0.mk (Kd.R_below HO2.out hb2); have HB3 := Aside0.mk (below_step HB2.out hb2); have HK3 := Aside0.mk (blk_below HK2.out hb2); obtain ⟨hd0, hd1, hd2, hd3⟩ := cz4_ HK3.out; have HX3 := Aside0.mk (blk_below HX2.out hb2); obtain ⟨hz0, hz1, hz2, hz3, hz4, hz5⟩ := cz6_ HX3.out; clear hb2) | ((with_reducible refine gate_builtin (b := .append) (xs := #[.tmp 58, .tmp 62]) rfl ?_); at_builtin; refine Kd.R_append k65 (w0 := w) w.heap.size rfl (.tmp 58) (.tmp 62) 29 65 (.agg #[.int .i64 0, .int .i64 0, .int .i64 0]) 24 rfl Tryz.underlying29 semblanceref14_Broken.info rfl (by decide) (by omega) _ (ol) (⟨a1, (i : Int), 0⟩ : S65) [.int .i64 a1, .int .i64 (i : Int), .int .i64 0] (fun _ => True) (fun _ => False) rfl rfl ?aP (fun _ hk => hk.elim) ?aF ?aO ?aB ?aS ?aL ?_; (case aP => exact k65_mkM _ _ _ (⟨a1, (i : Int), 0⟩ : S65)); (case aF => exact (fun _ _ => trivial)); (case aO => exact HO3.out); (case aB => exact HB3.out); (case aS => exact below_size HB3.out); (case aL => have := HLO.out; (try simp only [List.length_append, List.length_cons, List.length_nil]); omega); intro v1 w3 ho hb hg hat; obtain ⟨A6, c6, rfl⟩ := Kd.R_slice ho; (try simp only [List.length_append, List.length_cons, List.length_nil, Nat.zero_add] at ho); have HK4 := Aside0.mk (blk_grown HK3.out hg (Kd.R_ne HO3.out HK3.out (by decide))); have HX4 := Aside0.mk (blk_grown HX3.out hg (Kd.R_ne HO3.out HX3.out (by decide))); obtain ⟨hz0, hz1, hz2, hz3, hz4, hz5⟩ := cz6_ HX4.out; have HO4 := Aside0.mk ho; have HB4 := Aside0.mk hb; obtain ⟨hd0, hd1, hd2, hd3⟩ := cz4_ HK4.out; clear ho hb hg hat) | (go_at_call 58; (with_reducible refine (semblanceref14_acts.calls k a0_0 A0_1 c0_1 l0_1 A0_2 c0_2 l0_2 _ c0_3 l0_3 A4 c4 x.f4 false false _ (Kd.C_below HR1.out HB4.out) HC.out.1 (Kd.C_below HR2.out HB4.out) HC.out.2.1 (Kd.C_below HR3.out HB4.out) HC.out.2.2 (Kd.C_below HI4.out HB4.out) hl4 HTB.out).mono ?_); rintro e u5 ⟨rfl, hb2⟩; have HO5 := Aside0.mk (Kd.R_below HO4.out hb2); have HB5 := Aside0.mk (below_step HB4.out hb2); have HK5 := Aside0.mk (blk_below HK4.out hb2); obtain ⟨hd0, hd1, hd2, hd3⟩ := cz4_ HK5.out; have HX5 := Aside0.mk (blk_below HX4.out hb2); obtain ⟨hz0, hz1, hz2, hz3, hz4, hz5⟩ := cz6_ HX5.out; clear hb2) | ((with_reducible refine gate_builtin (b := .append) (xs := #[.tmp 69, .tmp 73]) rfl ?_); at_builtin; refine Kd.R_append k65 (w0 := w) w.heap.size rfl (.tmp 69) (.tmp 73) 29 65 (.agg #[.int .i64 0, .int .i64 0, .int .i64 0]) 24 rfl Tryz.underlying29 semblanceref14_Broken.info rfl (by decide) (by omega) _ (ol ++ [⟨a1, (i : Int), 0⟩]) (⟨a1, (i : Int), 1⟩ : S65) [.int .i64 a1, .int .i64 (i : Int), .int .i64 1] (fun _ => True) (fun _ => False) rfl rfl ?aP (fun _ hk => hk.elim) ?aF ?aO ?aB ?aS ?aL ?_; (case aP => exact k65_mkM _ _ _ (⟨a1, (i : Int), 1⟩ : S65)); (case aF => exact (fun _ _ => trivial)); (case aO => exact HO5.out); (case aB => exact HB5.out); (case aS => exact below_size HB5.out); (case aL => have := HLO.out; (try simp only [List.length_append, List.length_cons, List.length_nil]); omega); intro v1 w3 ho hb hg hat; obtain ⟨A6, c6, rfl⟩ := Kd.R_slice ho; (try simp only [List.length_append, List.length_cons, List.length_nil, Nat.zero_add] at ho); have HK6 := Aside0.mk (blk_grown HK5.out hg (Kd.R_ne HO5.out HK5.out (by decide))); have HX6 := Aside0.mk (blk_grown HX5.out hg (Kd.R_ne HO5.out HX5.out (by decide))); obtain ⟨hz0, hz1, hz2, hz3, hz4, hz5⟩ := cz6_ HX6.out; have HO6 := Aside0.mk ho; have HB6 := Aside0.mk hb; obtain ⟨hd0, hd1, hd2, hd3⟩ := cz4_ HK6.out; clear ho hb hg hat))
                    go_roundg (n - (i + 1))
                    case measure => have := HKQ.out; omega
                    case rel => exact ⟨_, _, i + 1, _, rfl, rfl, ⟨rfl⟩, ⟨hi⟩, by go_num, ⟨HNX.out _ (HAT.out)⟩, ⟨by simpa using HO6.out⟩, HK6, HB6⟩
              · have d10b : (a1 == 10) = false := beq_eq_false_iff_ne.mpr d10
                rw [if_neg d10] at hat
                have HAT : Aside0 (∀ il, brk_all x.f5.length (semblanceref14_Broken.one k a0_0 l0_1 l0_2 l0_3 a1 i x.f5) = some il → semblanceref14_Broken.at_ k a0_0 l0_1 l0_2 l0_3 a1 i = some il) := ⟨fun il hil => by rw [HATO.out, ← hat]; exact hil⟩
                have HXX := Aside0.mk hat
                have HXL : Aside0 ((ol ++ xx).length ≤ 1000000) := ⟨by
                  obtain ⟨l', h1, h2⟩ := brk_below HFL.out (i + 1) hi
                  rw [brk_next HOL.out xx HATO.out] at h1
                  obtain rfl := Option.some.inj h1
                  exact Nat.le_trans h2 HLEN.out⟩
                clear d5 d10 hat HATO hxx
                go_wp2_with (first | ((with_reducible refine gate_dst (N := 8) rfl ?_); refine box_event ?hg (N := 8) ?hd (cs := #[.string (⟨#[]⟩ : ByteArray), .int .i64 0, .int .i64 0, .slice none 0 0, .slice none 0 0, .slice none 0 0]) (t := 46) ?hr ?_; (case hd => rfl); (case hg => rfl); (case hr => first | (go_simp; done) | (go_simp; rfl)); intro g hg u1 hbox hb; have HGE := Aside0.mk (Nat.le_of_eq hg.symm); clear hg) | (refine box_put (vs := #[.string x.f0, .int .i64 x.f1, .int .i64 x.f2, .slice A3 x.f3.length c3, .slice A4 x.f4.length c4, .slice A5x x.f5.length c5x]) rfl rfl (.tmp 8) (.tmp 50) rfl rfl rfl hbox (by kernel_rfl) rfl (by simp [Value.oneCell']) hb HGE.out ?_; intro u2 hbox2 hb2; have HX2 := Aside0.mk hbox2; obtain ⟨hz0, hz1, hz2, hz3, hz4, hz5⟩ := cz6_ hbox2; have HO2 := Aside0.mk (Kd.R_below HO.out hb2); have HB2 := Aside0.mk (below_step HB.out hb2); have HK2 := Aside0.mk (blk_below HK.out hb2); obtain ⟨hd0, hd1, hd2, hd3⟩ := cz4_ HK2.out; clear hbox hb hbox2 hb2))
                go_loopg [5, 9] x.f5.length (fun kq v5' v9 wr' => ∃ (v5 : Value) (wr : World) (m : Nat) (il : List (S65)), v5 = v5' ∧ wr = wr' ∧ Aside0 (x.f5.length - m = kq) ∧ Aside0 (m ≤ x.f5.length) ∧ v9 = .int .i64 (m : Int) ∧ Aside0 (brk_all m (semblanceref14_Broken.one k a0_0 l0_1 l0_2 l0_3 a1 i x.f5) = some il) ∧ Aside0 (Kd.R k65 65 wr w.heap.size (fun _ => True) v5 (ol ++ il)) ∧ Aside0 (wr.heap[g2]? = some (.cells #[.string a0_0, .slice A0_1 l0_1.length c0_1, .slice A0_2 l0_2.length c0_2, .slice (some ad) l0_3.length c0_3] 26 (0, 0))) ∧ Aside0 (wr.heap[g]? = some (.cells #[.string x.f0, .int .i64 x.f1, .int .i64 x.f2, .slice A3 x.f3.length c3, .slice A4 x.f4.length c4, .slice A5x x.f5.length c5x] 46 (0, 0))) ∧ Aside0 (Below w.heap.size w wr))
                case atStart => exact ⟨_, _, 0, [], rfl, rfl, ⟨rfl⟩, ⟨Nat.zero_le _⟩, rfl, ⟨rfl⟩, ⟨by rw [List.append_nil]; exact HO2.out⟩, HK2, HX2, HB2⟩
                case round =>
                  obtain ⟨v5, wr, m, il, rfl, rfl, HKQ2, HM, rfl, HIL, HO, HK, HX, HB⟩ := hrel
                  obtain ⟨hd0, hd1, hd2, hd3⟩ := cz4_ HK.out
                  obtain ⟨hz0, hz1, hz2, hz3, hz4, hz5⟩ := cz6_ HX.out
                  by_cases hm : m < x.f5.length
                  · have hlt2 : decide ((m : Int) < (x.f5.length : Int)) = true := decide_eq_true (by omega)
                    obtain ⟨ad5, B1, d1, B2, d2, e5, hs0, hs1, hs2, hs3, hd1_, hi1, hd2_, hi2⟩ := at_T54 HI5.out (m : Int) (by omega) (by omega)
                    subst e5
                    rw [Int.toNat_natCast] at hs0 hs1 hs2 hs3
                    replace hs0 := pw_cell_below HB.out hs0
                    replace hs1 := pw_cell_below HB.out hs1
                    replace hs2 := pw_cell_below HB.out hs2
                    replace hs3 := pw_cell_below HB.out hs3
                    obtain ⟨z, hz_, hzl⟩ := brk_at HXX.out hm HIL.out
                    have hlx : (ol ++ il).length ≤ 1000000 := by have := HXL.out; rw [List.length_append] at this ⊢; omega
                    have HNI := Aside0.mk (brk_next HIL.out)
                    unfold semblanceref14_Broken.one at hz_
                    obtain ⟨t, ht, hz_⟩ := Option.bind_eq_some_iff.mp hz_
                    have HON : Aside0 (semblanceref14_Broken.one k a0_0 l0_1 l0_2 l0_3 a1 i x.f5 m = some (if t = true then [] else [⟨a1, (i : Int), (m : Int)⟩])) := ⟨by unfold semblanceref14_Broken.one; rw [ht]; rfl⟩
                    generalize rd_T54 x.f5 (m : Int) = y at *
                    have HT := Aside0.mk ht
                    have HI1 := Aside0.mk (Kd.C_below hi1 HB.out)
                    have HI2 := Aside0.mk (Kd.C_below hi2 HB.out)
                    have HLO := Aside0.mk hlx
                    have HASC := Aside0.mk (fun (q : List (S65)) => (List.append_assoc ol il q))
                    obtain ⟨A7, c7, rfl⟩ := Kd.R_slice HO.out
                    clear hz_ ht hi1 hi2 hlx hzl
                    generalize hxs : ol ++ il = xs at *
                    clear hxs
                    have HSE : Aside0 (∀ w', Below wr.heap.size wr w' → w'.cell? ⟨g2, 0, none⟩ = some (.string a0_0) ∧ w'.cell? ⟨g2, 1, none⟩ = some (.slice A0_1 l0_1.length c0_1) ∧ w'.cell? ⟨g2, 2, none⟩ = some (.slice A0_2 l0_2.length c0_2) ∧ w'.cell? ⟨g2, 3, none⟩ = some (.slice (some ad) l0_3.length c0_3) ∧ w'.cell? ⟨g, 5, none⟩ = some (.slice (some ad5) x.f5.length c5x) ∧ w'.cell? (ad5.add (m * 4)) = some (.string y.f0) ∧ w'.cell? ⟨(ad5.add (m * 4)).block, (ad5.add (m * 4)).off + 1, none⟩ = some (.slice B1 y.f1.length d1) ∧ w'.cell? ⟨(ad5.add (m * 4)).block, (ad5.add (m * 4)).off + 2, none⟩ = some (.slice B2 y.f2.length d2) ∧ w'.cell? ⟨(ad5.add (m * 4)).block, (ad5.add (m * 4)).off + 3, none⟩ = some (.string y.f3)) := ⟨fun w' hb => by
                      obtain ⟨h0, h1, h2, h3⟩ := cz4_ (blk_below HK.out hb)
                      obtain ⟨_, _, _, _, _, h5⟩ := cz6_ (blk_below HX.out hb)
                      exact ⟨h0, h1, h2, h3, h5, pw_cell_below hb hs0, pw_cell_below hb hs1, pw_cell_below hb hs2, pw_cell_below hb hs3⟩⟩
                    clear hs0 hs1 hs2 hs3
                    cases t with
                    | true =>
                      go_wp2_with fail
                      refine rs_ 9 [0, 1, 2, 3, 4, 5, 6, 7, 8] (fun w' => w'.cell? ⟨g2, 0, none⟩ = some (.string a0_0) ∧ w'.cell? ⟨g2, 1, none⟩ = some (.slice A0_1 l0_1.length c0_1) ∧ w'.cell? ⟨g2, 2, none⟩ = some (.slice A0_2 l0_2.length c0_2) ∧ w'.cell? ⟨g2, 3, none⟩ = some (.slice (some ad) l0_3.length c0_3) ∧ w'.cell? ⟨g, 5, none⟩ = some (.slice (some ad5) x.f5.length c5x) ∧ w'.cell? (ad5.add (m * 4)) = some (.string y.f0) ∧ w'.cell? ⟨(ad5.add (m * 4)).block, (ad5.add (m * 4)).off + 1, none⟩ = some (.slice B1 y.f1.length d1) ∧ w'.cell? ⟨(ad5.add (m * 4)).block, (ad5.add (m * 4)).off + 2, none⟩ = some (.slice B2 y.f2.length d2) ∧ w'.cell? ⟨(ad5.add (m * 4)).block, (ad5.add (m * 4)).off + 3, none⟩ = some (.string y.f3)) rfl (by kernel_rfl) (HSE.out _ (below_drew1 (Below.refl _ _))) (fun hHeld => ?_)
                      iterate 7 (first | refine pq_ ?_ | refine tq_ hHeld ?_)
                      refine cq_ Tryz.func59 ?_
                      refine (semblanceref14_trans.calls k a0_0 A0_1 c0_1 l0_1 A0_2 c0_2 l0_2 _ c0_3 l0_3 a1 y.f0 B1 d1 y.f1 B2 d2 y.f2 y.f3 _ _ (Kd.C_below HR1.out (below_drew1 HB.out)) HC.out.1 (Kd.C_below HR2.out (below_drew1 HB.out)) HC.out.2.1 (Kd.C_below HR3.out (below_drew1 HB.out)) HC.out.2.2 (Kd.C_drew HI1.out) hd1_ (Kd.C_drew HI2.out) hd2_ HT.out).mono ?_
                      rintro e w5 ⟨rfl, hb5⟩; have HBR := Aside0.mk (below_step (below_drew1 (Below.refl _ _)) hb5); have HO3 := Aside0.mk (Kd.R_below (Kd.R_drew HO.out) hb5); have HB3 := Aside0.mk (below_step (below_drew1 HB.out) hb5); have HK3 := Aside0.mk (blk_below (blk_drew HK.out) hb5); have HX3 := Aside0.mk (blk_below (blk_drew HX.out) hb5); clear hb5
                      refine ⟨_, rfl, HSE.out _ HBR.out, fun hHeld => ?_⟩
                      (try simp only [Act.put, sb_, s0_, s1_])
                      iterate 1 (first | refine pq_ ?_ | refine tq_ hHeld ?_)
                      refine dn_ (by kernel_rfl) ?_
                      clear hHeld
                      go_wp2
                      go_roundg (x.f5.length - (m + 1))
                      case measure => have := HKQ2.out; omega
                      case rel => exact ⟨_, _, m + 1, _, rfl, rfl, ⟨rfl⟩, ⟨hm⟩, by go_num, ⟨HNI.out _ HON.out⟩, ⟨by rw [← HASC.out]; simpa using HO3.out⟩, HK3, HX3, HB3⟩
                    | false =>
                      go_wp2_with fail
                      refine rs_ 9 [0, 1, 2, 3, 4, 5, 6, 7, 8] (fun w' => w'.cell? ⟨g2, 0, none⟩ = some (.string a0_0) ∧ w'.cell? ⟨g2, 1, none⟩ = some (.slice A0_1 l0_1.length c0_1) ∧ w'.cell? ⟨g2, 2, none⟩ = some (.slice A0_2 l0_2.length c0_2) ∧ w'.cell? ⟨g2, 3, none⟩ = some (.slice (some ad) l0_3.length c0_3) ∧ w'.cell? ⟨g, 5, none⟩ = some (.slice (some ad5) x.f5.length c5x) ∧ w'.cell? (ad5.add (m * 4)) = some (.string y.f0) ∧ w'.cell? ⟨(ad5.add (m * 4)).block, (ad5.add (m * 4)).off + 1, none⟩ = some (.slice B1 y.f1.length d1) ∧ w'.cell? ⟨(ad5.add (m * 4)).block, (ad5.add (m * 4)).off + 2, none⟩ = some (.slice B2 y.f2.length d2) ∧ w'.cell? ⟨(ad5.add (m * 4)).block, (ad5.add (m * 4)).off + 3, none⟩ = some (.string y.f3)) rfl (by kernel_rfl) (HSE.out _ (below_drew1 (Below.refl _ _))) (fun hHeld => ?_)
                      iterate 7 (first | refine pq_ ?_ | refine tq_ hHeld ?_)
                      refine cq_ Tryz.func59 ?_
                      refine (semblanceref14_trans.calls k a0_0 A0_1 c0_1 l0_1 A0_2 c0_2 l0_2 _ c0_3 l0_3 a1 y.f0 B1 d1 y.f1 B2 d2 y.f2 y.f3 _ _ (Kd.C_below HR1.out (below_drew1 HB.out)) HC.out.1 (Kd.C_below HR2.out (below_drew1 HB.out)) HC.out.2.1 (Kd.C_below HR3.out (below_drew1 HB.out)) HC.out.2.2 (Kd.C_drew HI1.out) hd1_ (Kd.C_drew HI2.out) hd2_ HT.out).mono ?_
                      rintro e w5 ⟨rfl, hb5⟩; have HBR := Aside0.mk (below_step (below_drew1 (Below.refl _ _)) hb5); have HO3 := Aside0.mk (Kd.R_below (Kd.R_drew HO.out) hb5); have HB3 := Aside0.mk (below_step (below_drew1 HB.out) hb5); have HK3 := Aside0.mk (blk_below (blk_drew HK.out) hb5); have HX3 := Aside0.mk (blk_below (blk_drew HX.out) hb5); clear hb5
                      refine ⟨_, rfl, HSE.out _ HBR.out, fun hHeld => ?_⟩
                      (try simp only [Act.put, sb_, s0_, s1_])
                      iterate 1 (first | refine pq_ ?_ | refine tq_ hHeld ?_)
                      refine dn_ (by kernel_rfl) ?_
                      clear hHeld
                      go_wp2_with ((with_reducible refine gate_builtin (b := .append) (xs := #[.tmp 91, .tmp 96]) rfl ?_); at_builtin; refine Kd.R_append k65 (w0 := w) w.heap.size rfl (.tmp 91) (.tmp 96) 29 65 (.agg #[.int .i64 0, .int .i64 0, .int .i64 0]) 24 rfl Tryz.underlying29 semblanceref14_Broken.info rfl (by decide) (by omega) _ (xs) (⟨a1, (i : Int), (m : Int)⟩ : S65) [.int .i64 a1, .int .i64 (i : Int), .int .i64 (m : Int)] (fun _ => True) (fun _ => False) rfl rfl ?aP (fun _ hk => hk.elim) ?aF ?aO ?aB ?aS ?aL ?_; (case aP => exact k65_mkM _ _ _ (⟨a1, (i : Int), (m : Int)⟩ : S65)); (case aF => exact (fun _ _ => trivial)); (case aO => exact HO3.out); (case aB => exact HB3.out); (case aS => exact below_size HB3.out); (case aL => have := HLO.out; (try simp only [List.length_append, List.length_cons, List.length_nil]); omega); intro v1 w3 ho hb hg hat; obtain ⟨A6, c6, rfl⟩ := Kd.R_slice ho; (try simp only [List.length_append, List.length_cons, List.length_nil, Nat.zero_add] at ho); have HK4 := Aside0.mk (blk_grown HK3.out hg (Kd.R_ne HO3.out HK3.out (by decide))); have HX4 := Aside0.mk (blk_grown HX3.out hg (Kd.R_ne HO3.out HX3.out (by decide))); obtain ⟨hz0, hz1, hz2, hz3, hz4, hz5⟩ := cz6_ HX4.out; have HO4 := Aside0.mk ho; have HB4 := Aside0.mk hb; obtain ⟨hd0, hd1, hd2, hd3⟩ := cz4_ HK4.out; clear ho hb hg hat)
                      go_roundg (x.f5.length - (m + 1))
                      case measure => have := HKQ2.out; omega
                      case rel => exact ⟨_, _, m + 1, _, rfl, rfl, ⟨rfl⟩, ⟨hm⟩, by go_num, ⟨HNI.out _ HON.out⟩, ⟨by rw [← HASC.out]; simpa using HO4.out⟩, HK4, HX4, HB4⟩
                  · have hlt2 : decide ((m : Int) < (x.f5.length : Int)) = false := decide_eq_false (by omega)
                    have hml : m = x.f5.length := by have := HM.out; omega
                    subst hml
                    have HIX := Aside0.mk (HAT.out il HIL.out)
                    go_wp2
                    go_roundg (n - (i + 1))
                    case measure => have := HKQ.out; omega
                    case rel => exact ⟨_, _, i + 1, _, rfl, rfl, ⟨rfl⟩, ⟨hi⟩, by go_num, ⟨HNX.out _ HIX.out⟩, HO, HK, HB⟩
          · have hlt : decide ((i : Int) < (n : Int)) = false := decide_eq_false (by omega)
            have hil : i = n := by have := HI.out; omega
            subst hil
            have hfl := HFL.out
            rw [HOL.out] at hfl
            obtain rfl := Option.some.inj hfl
            clear HOL hfl
            go_wp2
            go_ret
            exact ⟨_, rfl, HO.out, HB.out⟩


/-! ### semblanceref15_Is: function 10 -/
def semblanceref15_Is.l0 : Nat → Int → ByteArray → List ByteArray → List (S50) → List (S46) → Option (Bool)
  | 0, _, _, _, _, _ => none
  | k + 1, x3, x315000, x315001, x315002, x315003 => if x3 ≥ 1 then ((semblanceref14_Broken.f k x315000 x315001 x315002 x315003 x3).bind fun t316 => (if (t316.length : Int) > 0 then (some false) else (semblanceref15_Is.l0 k (wrap64 (x3 - 1)) x315000 x315001 x315002 x315003))) else (some true)
def semblanceref15_Is.f (k : Nat) (a0_0 : ByteArray) (l0_1 : List ByteArray) (l0_2 : List (S50)) (l0_3 : List (S46)) : Option (Bool) := (semblanceref12_May.f k a0_0 l0_1 l0_2 l0_3).bind fun t315 => (if t315 = true then (semblanceref15_Is.l0 k 10 a0_0 l0_1 l0_2 l0_3) else (some false))
theorem semblanceref15_Is.mono_l : ∀ k, (∀ y0 y1 y2 y3 y4, LeO (semblanceref15_Is.l0 k y0 y1 y2 y3 y4) (semblanceref15_Is.l0 (k + 1) y0 y1 y2 y3 y4))
  | 0 => fun _ _ _ _ _ r h => by simp [semblanceref15_Is.l0] at h
  | k + 1 => by
    have ih0 := semblanceref15_Is.mono_l k
    · intro y0 y1 y2 y3 y4
      unfold semblanceref15_Is.l0
      exact mo_
theorem semblanceref15_Is.mono : ∀ a0 a1 a2 a3 k, LeO (semblanceref15_Is.f k a0 a1 a2 a3) (semblanceref15_Is.f (k + 1) a0 a1 a2 a3) := by
  intro a0 a1 a2 a3 k
  have ih0 := semblanceref15_Is.mono_l k
  unfold semblanceref15_Is.f
  exact mo_
instance semblanceref15_Is.lc : ∀ a0 a1 a2 a3 k, LeC (semblanceref15_Is.f k a0 a1 a2 a3) (semblanceref15_Is.f (k + 1) a0 a1 a2 a3) := fun a0 a1 a2 a3 k => ⟨semblanceref15_Is.mono a0 a1 a2 a3 k⟩
set_option maxHeartbeats 8000000 in
set_option maxRecDepth 100000 in
theorem semblanceref15_Is.calls (k : Nat) (a0_0 : ByteArray) (A0_1 : Option Addr) (c0_1 : Nat) (l0_1 : List ByteArray) (A0_2 : Option Addr) (c0_2 : Nat) (l0_2 : List (S50)) (A0_3 : Option Addr) (c0_3 : Nat) (l0_3 : List (S46)) (r : Bool) (w : World) (hr0_1 : Kd.C Kd.string w A0_1 l0_1.length l0_1) (hc0_1 : l0_1.length ≤ c0_1) (hr0_2 : Kd.C k50 w A0_2 l0_2.length l0_2) (hc0_2 : l0_2.length ≤ c0_2) (hr0_3 : Kd.C k46 w A0_3 l0_3.length l0_3) (hc0_3 : l0_3.length ≤ c0_3) (h : semblanceref15_Is.f k a0_0 l0_1 l0_2 l0_3 = some r) :
  Calls Tryz.prog 10 #[.agg #[.string a0_0, .slice A0_1 l0_1.length c0_1, .slice A0_2 l0_2.length c0_2, .slice A0_3 l0_3.length c0_3]] w fun e w' => e = .returned (.bool r) ∧ Below w.heap.size w w' := by
 have hu26 := Tryz.underlying26
 have HR0_1 := Aside0.mk hr0_1
 have HC0_1 := Aside0.mk hc0_1
 clear hr0_1 hc0_1
 have HR0_2 := Aside0.mk hr0_2
 have HC0_2 := Aside0.mk hc0_2
 clear hr0_2 hc0_2
 have HR0_3 := Aside0.mk hr0_3
 have HC0_3 := Aside0.mk hc0_3
 clear hr0_3 hc0_3
 have HB := Aside0.mk (Below.refl w.heap.size w)
 unfold semblanceref15_Is.f at h
 have H := h
 clear h
 replace H := bi_ H; obtain ⟨t315, A2, H⟩ := H
 replace H := ib_ H; obtain ⟨rfl, H⟩ | ⟨rfl, H⟩ := H
 ·obtain rfl := Option.some.inj H
  go_enter Tryz.func10, Tryz.ntmps10
  go_wp2_with (first | ((with_reducible refine gate_dst (N := 1) rfl ?_); refine bx_ HB (N := 1) (cs := #[.string a0_0, .slice A0_1 l0_1.length c0_1, .slice A0_2 l0_2.length c0_2, .slice A0_3 l0_3.length c0_3]) (t := 26) ?_; clear HB; intro gb314 w16 HB BK314 GW314 GE314; obtain ⟨z17_0, z17_1, z17_2, z17_3, y17_0, y17_1, y17_2, y17_3⟩ := cw4_ BK314.out) | ((with_reducible refine gate_callee (f := 11) rfl ?_); refine gl_ (some 5) Tryz.func11 #[.agg #[.string a0_0, .slice A0_1 l0_1.length c0_1, .slice A0_2 l0_2.length c0_2, .slice A0_3 l0_3.length c0_3]] ?_; (with_reducible refine cm_ (semblanceref12_May.calls k a0_0 _ _ l0_1 _ _ l0_2 _ _ l0_3 false _ (kc_ HR0_1 HB) HC0_1.out (kc_ HR0_2 HB) HC0_2.out (kc_ HR0_3 HB) HC0_3.out A2.out) ?_); intro w18 hb; refine ⟨_, rfl, ?_⟩; replace BK314 := tb_ BK314 hb; replace HB := ts_ HB hb; clear hb))
  go_ret
  exact ⟨rv_, bw_⟩

 have H' := Aside0.mk H
 clear H
 go_enter Tryz.func10, Tryz.ntmps10
 go_wp2_with (first | ((with_reducible refine gate_dst (N := 1) rfl ?_); refine bx_ HB (N := 1) (cs := #[.string a0_0, .slice A0_1 l0_1.length c0_1, .slice A0_2 l0_2.length c0_2, .slice A0_3 l0_3.length c0_3]) (t := 26) ?_; clear HB; intro gb314 w4 HB BK314 GW314 GE314; obtain ⟨z5_0, z5_1, z5_2, z5_3, y5_0, y5_1, y5_2, y5_3⟩ := cw4_ BK314.out) | ((with_reducible refine gate_callee (f := 11) rfl ?_); refine gl_ (some 5) Tryz.func11 #[.agg #[.string a0_0, .slice A0_1 l0_1.length c0_1, .slice A0_2 l0_2.length c0_2, .slice A0_3 l0_3.length c0_3]] ?_; (with_reducible refine cm_ (semblanceref12_May.calls k a0_0 _ _ l0_1 _ _ l0_2 _ _ l0_3 true _ (kc_ HR0_1 HB) HC0_1.out (kc_ HR0_2 HB) HC0_2.out (kc_ HR0_3 HB) HC0_3.out A2.out) ?_); intro w6 hb; refine ⟨_, rfl, ?_⟩; replace BK314 := tb_ BK314 hb; replace HB := ts_ HB hb; clear hb))
 go_loopg [3] k (fun kq v3 w' => ∃ (x3_1 : Int), v3 = .int .i64 x3_1 ∧ Aside0 (semblanceref15_Is.l0 kq x3_1 a0_0 l0_1 l0_2 l0_3 = some r) ∧ Aside0 (kq ≤ k) ∧ Aside0 (w'.heap[gb314]? = some (.cells #[.string a0_0, (.slice A0_1 l0_1.length c0_1), (.slice A0_2 l0_2.length c0_2), (.slice A0_3 l0_3.length c0_3)] 26 (0, 0))) ∧ Aside0 (Below w.heap.size w w'))
 case atStart => exact ⟨(10), rl_, H', ⟨Nat.le_refl _⟩, ⟨grw BK314.out⟩, ⟨bw_⟩⟩
 case round =>
  clear H'
  try clear c3
  try clear z5_0 z5_1 z5_2 z5_3
  try clear y5_0 y5_1 y5_2 y5_3
  obtain ⟨x3_1, rfl, HA, HK1, BK314, HB⟩ := hrel
  cases gk with
  | zero => exact absurd HA.out (by simp [semblanceref15_Is.l0])
  | succ k1 =>
   have H := HA.out
   clear HA
   simp only [semblanceref15_Is.l0] at H
   replace H := ic_ H; obtain ⟨c7, H⟩ | ⟨c7, H⟩ := H
   ·have c7b0 : decide (1 ≤ x3_1) = false := decide_eq_false c7
    clear c7
    obtain rfl := Option.some.inj H
    go_wp2
    go_ret
    exact ⟨rv_, bw_⟩
   have c7b0 : decide (1 ≤ x3_1) = true := decide_eq_true c7
   clear c7
   replace H := bi_ H; obtain ⟨t316, A8, H⟩ := H
   replace H := id_ H; obtain ⟨c9, H⟩ | ⟨c9, H⟩ := H
   ·have c9b0 : decide (0 < (t316.length : Int)) = true := decide_eq_true c9
    have c9b1 : decide (0 < t316.length) = true := decide_eq_true (by omega)
    clear c9
    obtain rfl := Option.some.inj H
    obtain ⟨z10_0, z10_1, z10_2, z10_3, y10_0, y10_1, y10_2, y10_3⟩ := cw4_ BK314.out
    go_wp2_with (first | ((with_reducible refine gate_callee (f := 27) rfl ?_); refine gl_ (some 13) Tryz.func27 #[.agg #[.string a0_0, .slice A0_1 l0_1.length c0_1, .slice A0_2 l0_2.length c0_2, .slice A0_3 l0_3.length c0_3], .int .i64 x3_1] ?_; (with_reducible refine (semblanceref14_Broken.calls k1 a0_0 _ _ l0_1 _ _ l0_2 _ _ l0_3 x3_1 t316 _ (kc_ HR0_1 HB) HC0_1.out (kc_ HR0_2 HB) HC0_2.out (kc_ HR0_3 HB) HC0_3.out A8.out).mono ?_); rintro e w11 ⟨v317, rfl, ho0, hb⟩; have hB_ := bu_ HB hb; refine ⟨_, rfl, ?_⟩; have HO318 := Aside0.mk (Kd.R_lower ho0 (below_size hB_)); replace BK314 := tb_ BK314 hb; replace HB := Aside0.mk (below_step hB_ hb); clear hb; (try clear ho0); obtain ⟨Ao12, co12, eo12⟩ := Kd.R_slice HO318.out; subst eo12))
    go_ret
    exact ⟨rv_, bw_⟩
   have c9b0 : decide (0 < (t316.length : Int)) = false := decide_eq_false c9
   have c9b1 : decide (0 < t316.length) = false := decide_eq_false (by omega)
   clear c9
   have H' := Aside0.mk H
   clear H
   obtain ⟨z13_0, z13_1, z13_2, z13_3, y13_0, y13_1, y13_2, y13_3⟩ := cw4_ BK314.out
   go_wp2_with (first | ((with_reducible refine gate_callee (f := 27) rfl ?_); refine gl_ (some 13) Tryz.func27 #[.agg #[.string a0_0, .slice A0_1 l0_1.length c0_1, .slice A0_2 l0_2.length c0_2, .slice A0_3 l0_3.length c0_3], .int .i64 x3_1] ?_; (with_reducible refine (semblanceref14_Broken.calls k1 a0_0 _ _ l0_1 _ _ l0_2 _ _ l0_3 x3_1 t316 _ (kc_ HR0_1 HB) HC0_1.out (kc_ HR0_2 HB) HC0_2.out (kc_ HR0_3 HB) HC0_3.out A8.out).mono ?_); rintro e w14 ⟨v317, rfl, ho0, hb⟩; have hB_ := bu_ HB hb; refine ⟨_, rfl, ?_⟩; have HO318 := Aside0.mk (Kd.R_lower ho0 (below_size hB_)); replace BK314 := tb_ BK314 hb; replace HB := Aside0.mk (below_step hB_ hb); clear hb; (try clear ho0); obtain ⟨Ao15, co15, eo15⟩ := Kd.R_slice HO318.out; subst eo15))
   go_roundg k1
   case measure => have := HK1.out; omega
   case rel => exact ⟨(wrap64 (x3_1 - 1)), rl_, H', ⟨kn_ HK1⟩, ⟨grw BK314.out⟩, ⟨bw_⟩⟩
/-! ### semblanceref14_Same: function 12 -/
def semblanceref14_Same.l0 : Nat → List (S65) → List (S65) → Int → Option (Bool)
  | 0, _, _, _ => none
  | k + 1, x0, x1, x5 => if x5 < (x0.length : Int) then (if 0 ≤ x5 then (if x5 < (x1.length : Int) then (if (!(((rd_T65 x0 x5).f0) == ((rd_T65 x1 x5).f0)) || (!(((rd_T65 x0 x5).f1) == ((rd_T65 x1 x5).f1)) || (!(((rd_T65 x0 x5).f2) == ((rd_T65 x1 x5).f2))))) = true then (some false) else (semblanceref14_Same.l0 k x0 x1 (wrap64 (x5 + 1)))) else (none)) else (none)) else (some true)
def semblanceref14_Same.f (k : Nat) (l0 : List (S65)) (l1 : List (S65)) : Option (Bool) := if (l0.length : Int) = (l1.length : Int) then (semblanceref14_Same.l0 k l0 l1 0) else (some false)
theorem semblanceref14_Same.mono_l : ∀ k, (∀ y0 y1 y2, LeO (semblanceref14_Same.l0 k y0 y1 y2) (semblanceref14_Same.l0 (k + 1) y0 y1 y2))
  | 0 => fun _ _ _ r h => by simp [semblanceref14_Same.l0] at h
  | k + 1 => by
    have ih0 := semblanceref14_Same.mono_l k
    · intro y0 y1 y2
      unfold semblanceref14_Same.l0
      exact mo_
theorem semblanceref14_Same.mono : ∀ a0 a1 k, LeO (semblanceref14_Same.f k a0 a1) (semblanceref14_Same.f (k + 1) a0 a1) := by
  intro a0 a1 k
  have ih0 := semblanceref14_Same.mono_l k
  unfold semblanceref14_Same.f
  exact mo_
instance semblanceref14_Same.lc : ∀ a0 a1 k, LeC (semblanceref14_Same.f k a0 a1) (semblanceref14_Same.f (k + 1) a0 a1) := fun a0 a1 k => ⟨semblanceref14_Same.mono a0 a1 k⟩
set_option maxHeartbeats 8000000 in
set_option maxRecDepth 100000 in
theorem semblanceref14_Same.calls (k : Nat) (A0 : Option Addr) (c0 : Nat) (l0 : List (S65)) (A1 : Option Addr) (c1 : Nat) (l1 : List (S65)) (r : Bool) (w : World) (hr0 : Kd.C k65 w A0 l0.length l0) (hc0 : l0.length ≤ c0) (hr1 : Kd.C k65 w A1 l1.length l1) (hc1 : l1.length ≤ c1) (h : semblanceref14_Same.f k l0 l1 = some r) :
  Calls Tryz.prog 12 #[.slice A0 l0.length c0, .slice A1 l1.length c1] w fun e w' => e = .returned (.bool r) ∧ Drawn0 w w' := by
 have hu65 := Tryz.underlying65
 have HR0 := Aside0.mk hr0
 have HC0 := Aside0.mk hc0
 clear hr0 hc0
 have HR1 := Aside0.mk hr1
 have HC1 := Aside0.mk hc1
 clear hr1 hc1
 unfold semblanceref14_Same.f at h
 have H := h
 clear h
 replace H := ic_ H; obtain ⟨c3, H⟩ | ⟨c3, H⟩ := H
 ·have c3b0 : ((l0.length : Int) == (l1.length : Int)) = false := beq_eq_false_iff_ne.mpr c3
  have c3b1 : ((l0.length : Int) != (l1.length : Int)) = true := bne_iff_ne.mpr c3
  have c3b2 : (l0.length == l1.length) = false := by first | simpa using c3 | (simp at c3 ⊢; omega)
  obtain rfl := Option.some.inj H
  go_enter Tryz.func12, Tryz.ntmps12
  go_wp2
  repeat (go_quiet (fail); try go_wp2)
  go_ret
  exact ⟨rl_, dw_⟩

 have c3b0 : ((l0.length : Int) == (l1.length : Int)) = true := beq_iff_eq.mpr c3
 have c3b1 : ((l0.length : Int) != (l1.length : Int)) = false := bne_eq_false_iff_eq.mpr c3
 have c3b2 : (l0.length == l1.length) = true := by first | simpa using c3 | (simp at c3 ⊢; omega)
 clear c3
 have H' := Aside0.mk H
 clear H
 go_enter Tryz.func12, Tryz.ntmps12
 go_wp2
 repeat (go_quiet (fail); try go_wp2)
 go_loopg [5] k (fun kq v5 w' => ∃ (x5_1 : Int), v5 = .int .i64 x5_1 ∧ Aside0 (semblanceref14_Same.l0 kq l0 l1 x5_1 = some r) ∧ Aside0 (kq ≤ k) ∧ Drawn0 w w')
 case atStart => exact ⟨(0), rl_, H', ⟨Nat.le_refl _⟩, dw_⟩
 case round =>
  clear H'
  try clear c1
  try clear c3b0
  try clear c3b1
  try clear c3b2
  obtain ⟨x5_1, rfl, HA, HK1, ⟨m1, rfl⟩⟩ := hrel
  cases gk with
  | zero => exact absurd HA.out (by simp [semblanceref14_Same.l0])
  | succ k1 =>
   have H := HA.out
   clear HA
   simp only [semblanceref14_Same.l0] at H
   replace H := it_ H; obtain ⟨c4b0, H⟩ | ⟨c4b0, H⟩ := H
   ·obtain rfl := Option.some.inj H
    go_wp2
    repeat (go_quiet (fail); try go_wp2)
    go_ret
    exact ⟨rl_, dw_⟩
   replace H := is_ H; obtain ⟨c5b0, H⟩ := H
   replace H := is_ H; obtain ⟨c6b0, H⟩ := H
   replace H := id_ H; obtain ⟨c7, H⟩ | ⟨c7, H⟩ := H
   ·have c7b0 : (!(((rd_T65 l0 x5_1).f0) == ((rd_T65 l1 x5_1).f0)) || (!(((rd_T65 l0 x5_1).f1) == ((rd_T65 l1 x5_1).f1)) || (!(((rd_T65 l0 x5_1).f2) == ((rd_T65 l1 x5_1).f2))))) = true := c7
    clear c7
    obtain rfl := Option.some.inj H
    obtain ⟨ad319, e319, hx319_0, hx319_1, hx319_2, p319, q319⟩ := au_T65 HR0 ⟨Below.refl _ _⟩ x5_1; cases e319
    obtain ⟨ad320, e320, hx320_0, hx320_1, hx320_2, p320, q320⟩ := au_T65 HR1 ⟨Below.refl _ _⟩ x5_1; cases e320
    go_wp2
    repeat (go_quiet (fail); try go_wp2)
    go_ret
    exact ⟨rl_, dw_⟩
   have c7b0 : (!(((rd_T65 l0 x5_1).f0) == ((rd_T65 l1 x5_1).f0)) || (!(((rd_T65 l0 x5_1).f1) == ((rd_T65 l1 x5_1).f1)) || (!(((rd_T65 l0 x5_1).f2) == ((rd_T65 l1 x5_1).f2))))) = false := by simpa using c7
   clear c7
   have H' := Aside0.mk H
   clear H
   obtain ⟨ad319, e319, hx319_0, hx319_1, hx319_2, p319, q319⟩ := au_T65 HR0 ⟨Below.refl _ _⟩ x5_1; cases e319
   obtain ⟨ad320, e320, hx320_0, hx320_1, hx320_2, p320, q320⟩ := au_T65 HR1 ⟨Below.refl _ _⟩ x5_1; cases e320
   go_wp2
   repeat (go_quiet (fail); try go_wp2)
   go_roundg k1
   case measure => have := HK1.out; omega
   case rel => exact ⟨(wrap64 (x5_1 + 1)), rl_, H', ⟨kn_ HK1⟩, dw_⟩
/-! ### semblanceref15_Of: function 13 -/
def semblanceref15_Of.l0 : Nat → List (S65) → Int → ByteArray → List ByteArray → List (S50) → List (S46) → Option ((List (S65)))
  | 0, _, _, _, _, _, _ => none
  | k + 1, x3, x4, x322000, x322001, x322002, x322003 => if x4 ≤ 10 then ((semblanceref14_Broken.f k x322000 x322001 x322002 x322003 x4).bind fun t325 => (if x3.length + t325.length < 5864062014805 then (semblanceref15_Of.l0 k (x3 ++ t325) (wrap64 (x4 + 1)) x322000 x322001 x322002 x322003) else (none))) else (some x3)
def semblanceref15_Of.f (k : Nat) (a0_0 : ByteArray) (l0_1 : List ByteArray) (l0_2 : List (S50)) (l0_3 : List (S46)) : Option ((List (S65))) := semblanceref15_Of.l0 k (([] : List (S65))) 1 a0_0 l0_1 l0_2 l0_3
theorem semblanceref15_Of.mono_l : ∀ k, (∀ y0 y1 y2 y3 y4 y5, LeO (semblanceref15_Of.l0 k y0 y1 y2 y3 y4 y5) (semblanceref15_Of.l0 (k + 1) y0 y1 y2 y3 y4 y5))
  | 0 => fun _ _ _ _ _ _ r h => by simp [semblanceref15_Of.l0] at h
  | k + 1 => by
    have ih0 := semblanceref15_Of.mono_l k
    · intro y0 y1 y2 y3 y4 y5
      unfold semblanceref15_Of.l0
      exact mo_
theorem semblanceref15_Of.mono : ∀ a0 a1 a2 a3 k, LeO (semblanceref15_Of.f k a0 a1 a2 a3) (semblanceref15_Of.f (k + 1) a0 a1 a2 a3) := by
  intro a0 a1 a2 a3 k
  have ih0 := semblanceref15_Of.mono_l k
  unfold semblanceref15_Of.f
  exact mo_
instance semblanceref15_Of.lc : ∀ a0 a1 a2 a3 k, LeC (semblanceref15_Of.f k a0 a1 a2 a3) (semblanceref15_Of.f (k + 1) a0 a1 a2 a3) := fun a0 a1 a2 a3 k => ⟨semblanceref15_Of.mono a0 a1 a2 a3 k⟩
set_option maxHeartbeats 8000000 in
set_option maxRecDepth 100000 in
theorem semblanceref15_Of.calls (k : Nat) (a0_0 : ByteArray) (A0_1 : Option Addr) (c0_1 : Nat) (l0_1 : List ByteArray) (A0_2 : Option Addr) (c0_2 : Nat) (l0_2 : List (S50)) (A0_3 : Option Addr) (c0_3 : Nat) (l0_3 : List (S46)) (r : List (S65)) (w : World) (hr0_1 : Kd.C Kd.string w A0_1 l0_1.length l0_1) (hc0_1 : l0_1.length ≤ c0_1) (hr0_2 : Kd.C k50 w A0_2 l0_2.length l0_2) (hc0_2 : l0_2.length ≤ c0_2) (hr0_3 : Kd.C k46 w A0_3 l0_3.length l0_3) (hc0_3 : l0_3.length ≤ c0_3) (h : semblanceref15_Of.f k a0_0 l0_1 l0_2 l0_3 = some r) :
  Calls Tryz.prog 13 #[.agg #[.string a0_0, .slice A0_1 l0_1.length c0_1, .slice A0_2 l0_2.length c0_2, .slice A0_3 l0_3.length c0_3]] w fun e w' => ∃ v0_ : Value, e = .returned (v0_) ∧ Kd.R k65 65 w' w.heap.size (fun _ => True) v0_ r ∧ Below w.heap.size w w' := by
 have hu26 := Tryz.underlying26
 have HR0_1 := Aside0.mk hr0_1
 have HC0_1 := Aside0.mk hc0_1
 clear hr0_1 hc0_1
 have HR0_2 := Aside0.mk hr0_2
 have HC0_2 := Aside0.mk hc0_2
 clear hr0_2 hc0_2
 have HR0_3 := Aside0.mk hr0_3
 have HC0_3 := Aside0.mk hc0_3
 clear hr0_3 hc0_3
 have HB := Aside0.mk (Below.refl w.heap.size w)
 unfold semblanceref15_Of.f at h
 have H := h
 clear h
 obtain ⟨y322, hy322⟩ : ∃ y_ : List (S65), y_ = (([] : List (S65))) := ⟨_, rfl⟩
 replace H : (semblanceref15_Of.l0 k y322 1 a0_0 l0_1 l0_2 l0_3) = some r := by first | (rw [hy322]; with_reducible exact H) | (have H2_ := (Option.bind_some _ _).symm.trans H; rw [hy322]; with_reducible exact H2_) | (have H2_ := (Option.bind_some _ _).symm.trans H; with_reducible exact H2_) | with_reducible exact H | (rw [hy322]; exact H) | exact H
 have Ny322 := Aside0.mk hy322
 clear hy322
 have H' := Aside0.mk H
 clear H
 go_enter Tryz.func13, Tryz.ntmps13
 go_wp2_with (first | ((with_reducible refine gate_dst (N := 1) rfl ?_); refine bx_ HB (N := 1) (cs := #[.string a0_0, .slice A0_1 l0_1.length c0_1, .slice A0_2 l0_2.length c0_2, .slice A0_3 l0_3.length c0_3]) (t := 26) ?_; clear HB; intro gb321 w2 HB BK321 GW321 GE321) | ((with_reducible refine gate_dst (N := 5) rfl ?_); refine Kd.R_lit k65 _ 65 ?hg (N := 5) ?hd (xs := ([] : List (S65))) (inner := []) (ok := fun _ => True) (okp := fun _ => True) ?hr ?hp (fun _ hk => hk) trivial (Below.refl _ _) (Nat.le_refl _) (by simp) ?_; (case hd => rfl); (case hg => rfl); (case hr => first | (go_simp; done) | (go_simp; rfl)); (case hp => exact (Reps.none _ _)); intro v323 w3 ho4 hb hg_ hnew_; clear hg_ hnew_; (first | rw [← Ny322.out] at ho4 | (simp only [Int.reduceToNat] at ho4; rw [← Ny322.out] at ho4)); have HO324 := Aside0.mk (Kd.R_lower ho4 (below_size bw_)); replace BK321 := tb_ BK321 hb; replace HB := ts_ HB hb; clear hb ho4))
 go_loopg [3, 4] k (fun kq v3 v4 w' => ∃ (x3_1 : List (S65)) (x4_1 : Int), v4 = .int .i64 x4_1 ∧ Aside0 (semblanceref15_Of.l0 kq x3_1 x4_1 a0_0 l0_1 l0_2 l0_3 = some r) ∧ Aside0 (kq ≤ k) ∧ Aside0 (Kd.R k65 65 w' w.heap.size (fun _ => True) v3 x3_1) ∧ Aside0 (w'.heap[gb321]? = some (.cells #[.string a0_0, (.slice A0_1 l0_1.length c0_1), (.slice A0_2 l0_2.length c0_2), (.slice A0_3 l0_3.length c0_3)] 26 (0, 0))) ∧ Aside0 (Below w.heap.size w w'))
 case atStart => exact ⟨(y322), (1), rl_, H', ⟨Nat.le_refl _⟩, ⟨by (with_reducible repeat (first | apply Kd.R_alloc | apply Kd.R_drewN | apply Kd.R_drew)); exact HO324.out⟩, ⟨grw BK321.out⟩, ⟨bw_⟩⟩
 case round =>
  clear H'
  obtain ⟨x3_1, x4_1, rfl, HA, HK1, HO_3, BK321, HB⟩ := hrel
  cases gk with
  | zero => exact absurd HA.out (by simp [semblanceref15_Of.l0])
  | succ k1 =>
   have H := HA.out
   clear HA
   simp only [semblanceref15_Of.l0] at H
   replace H := it_ H; obtain ⟨c5b0, H⟩ | ⟨c5b0, H⟩ := H
   ·obtain rfl := Option.some.inj H
    go_wp2
    go_ret
    exact ⟨_, rv_, by (with_reducible repeat (first | apply Kd.R_alloc | apply Kd.R_drewN | apply Kd.R_drew)); exact HO_3.out, by repeat (first | (with_reducible first | exact HB.out | apply below_alloc | apply pw_below_drewN | apply below_drew1 | refine below_set ?_ GE321.out) | exact HB.out)⟩

   replace H := bi_ H; obtain ⟨t325, A6, H⟩ := H
   replace H := ip_ H; obtain ⟨c7, H⟩ := H
   have LMc7 := Aside0.mk c7
   clear c7
   obtain ⟨y328, hy328⟩ : ∃ y_ : List (S65), y_ = (x3_1 ++ t325) := ⟨_, rfl⟩
   replace H : (semblanceref15_Of.l0 k1 y328 (wrap64 (x4_1 + 1)) a0_0 l0_1 l0_2 l0_3) = some r := by first | (rw [hy328]; with_reducible exact H) | (have H2_ := (Option.bind_some _ _).symm.trans H; rw [hy328]; with_reducible exact H2_) | (have H2_ := (Option.bind_some _ _).symm.trans H; with_reducible exact H2_) | with_reducible exact H | (rw [hy328]; exact H) | exact H
   have Ny328 := Aside0.mk hy328
   clear hy328
   have H' := Aside0.mk H
   clear H
   obtain ⟨z8_0, z8_1, z8_2, z8_3, y8_0, y8_1, y8_2, y8_3⟩ := cw4_ BK321.out
   go_wp2_with (first | ((with_reducible refine gate_callee (f := 27) rfl ?_); refine gl_ (some 13) Tryz.func27 #[.agg #[.string a0_0, .slice A0_1 l0_1.length c0_1, .slice A0_2 l0_2.length c0_2, .slice A0_3 l0_3.length c0_3], .int .i64 x4_1] ?_; (with_reducible refine (semblanceref14_Broken.calls k1 a0_0 _ _ l0_1 _ _ l0_2 _ _ l0_3 x4_1 t325 _ (kc_ HR0_1 HB) HC0_1.out (kc_ HR0_2 HB) HC0_2.out (kc_ HR0_3 HB) HC0_3.out A6.out).mono ?_); rintro e w9 ⟨v326, rfl, ho0, hb⟩; have hB_ := bu_ HB hb; refine ⟨_, rfl, ?_⟩; have HO327 := Aside0.mk (Kd.R_lower (Kd.R_new' ho0 (Kd.R_lt (kR_ HO_3))) (below_size hB_)); replace HO_3 := Aside0.mk (Kd.R_elder' (kR_ HO_3) (Kd.R_base ho0) hb); replace BK321 := tb_ BK321 hb; replace HB := Aside0.mk (below_step hB_ hb); clear hb; (try clear ho0); obtain ⟨Ao11, co11, eo11⟩ := Kd.R_slice HO327.out; subst eo11) | ((with_reducible refine gate_builtin (b := .append) (xs := #[.tmp 10, .tmp 13]) rfl ?_); at_builtin; refine Kd.R_append_rows k65 (w0 := w) w.heap.size rfl (.tmp 10) (.tmp 13) 29 65 (.agg #[(.int .i64 0), (.int .i64 0), (.int .i64 0)]) 24 rfl Tryz.underlying29 info65 rfl (by decide) (by omega) u3 x3_1 t325 _ _ _ (fun k_ => some k_ ≠ (.slice Ao11 t325.length co11 : Value).ownBlock) (fun _ => False) rfl rfl ?aO ?aR (fun _ _ h => h) (fun _ h => h.elim) ?aF ?aB ?aS ?aL ?_; (case aR => repeat (first | exact (Kd.R_reads' HO327.out).2.2 | (with_reducible refine Kd.C_alloc ?_ _) | (with_reducible refine Kd.C_drewN ?_ _) | (with_reducible refine Kd.C_drew ?_))); (case aB => exact bw_); (case aF => exact (fun k_ hk => Kd.fresh' (Kd.R_lt (kR_ HO327)) k_ hk)); (case aO => exact (by (with_reducible repeat (first | apply Kd.R_alloc | apply Kd.R_drewN | apply Kd.R_drew)); exact Kd.R_mono HO_3.out (fun _ hk => hk.2))); (case aS => exact (below_size bw_)); (case aL => have := LMc7.out; omega); intro v329 w10 ho hb hg hat; rw [← Ny328.out] at ho; have HO330 := Aside0.mk (ho); replace BK321 := Aside0.mk (blk_grown (grw BK321.out) hg (Kd.R_ne HO_3.out BK321.out (by decide))); replace HO327 := Aside0.mk (Kd.R_after (ok := (fun _ => True)) (kR_ HO327) hg hat); replace HB := Aside0.mk (hb); clear ho hb hg hat))
   go_roundg k1
   case measure => have := HK1.out; omega
   case rel => exact ⟨(y328), (wrap64 (x4_1 + 1)), rl_, H', ⟨kn_ HK1⟩, ⟨by (with_reducible repeat (first | apply Kd.R_alloc | apply Kd.R_drewN | apply Kd.R_drew)); exact Kd.R_mono HO330.out (fun _ hk => trivial)⟩, ⟨grw BK321.out⟩, ⟨bw_⟩⟩
/-! ### semblancelaw15_SoundOf: function 3 -/
def semblancelaw15_SoundOf.f (k : Nat) (a0_0 : ByteArray) (l0_1 : List ByteArray) (l0_2 : List (S50)) (l0_3 : List (S46)) : Option (Bool) := (semblanceref12_Light.f k a0_0 l0_1 l0_2 l0_3).bind fun t332 => (if t332 = true then ((sound_Of.f k a0_0 l0_1 l0_2 l0_3).bind fun bt334 => ((sound_Is.f k a0_0 l0_1 l0_2 l0_3).bind fun t338 => ((semblanceref15_Is.f k a0_0 l0_1 l0_2 l0_3).bind fun t339 => (if (t338 != t339) = true then (some false) else ((semblanceref12_May.f k a0_0 l0_1 l0_2 l0_3).bind fun t340 => (if t340 = true then (if bt334.2 = 0 then ((semblanceref15_Of.f k a0_0 l0_1 l0_2 l0_3).bind fun t342 => ((semblanceref14_Same.f k bt334.1 t342).bind fun t345 => (if t345 = true then ((sound_Is.f k a0_0 l0_1 l0_2 l0_3).bind fun t346 => (if (t346 == ((bt334.1.length : Int) == 0)) = true then ((semblancelaw15_awake.f k).bind fun t347 => (some t347)) else (some false))) else (some false)))) else (some false)) else (if (bt334.1.length : Int) = 0 then (if bt334.2 = 1 then ((semblancelaw15_awake.f k).bind fun t341 => (some t341)) else (some false)) else (some false)))))))) else ((semblancelaw15_awake.f k).bind fun t333 => (some t333)))
theorem semblancelaw15_SoundOf.mono : ∀ a0 a1 a2 a3 k, LeO (semblancelaw15_SoundOf.f k a0 a1 a2 a3) (semblancelaw15_SoundOf.f (k + 1) a0 a1 a2 a3) := by
  intro a0 a1 a2 a3 k
  unfold semblancelaw15_SoundOf.f
  exact mo_
instance semblancelaw15_SoundOf.lc : ∀ a0 a1 a2 a3 k, LeC (semblancelaw15_SoundOf.f k a0 a1 a2 a3) (semblancelaw15_SoundOf.f (k + 1) a0 a1 a2 a3) := fun a0 a1 a2 a3 k => ⟨semblancelaw15_SoundOf.mono a0 a1 a2 a3 k⟩
set_option maxHeartbeats 8000000 in
set_option maxRecDepth 100000 in
theorem semblancelaw15_SoundOf.calls (k : Nat) (a0_0 : ByteArray) (A0_1 : Option Addr) (c0_1 : Nat) (l0_1 : List ByteArray) (A0_2 : Option Addr) (c0_2 : Nat) (l0_2 : List (S50)) (A0_3 : Option Addr) (c0_3 : Nat) (l0_3 : List (S46)) (r : Bool) (w : World) (hr0_1 : Kd.C Kd.string w A0_1 l0_1.length l0_1) (hc0_1 : l0_1.length ≤ c0_1) (hr0_2 : Kd.C k50 w A0_2 l0_2.length l0_2) (hc0_2 : l0_2.length ≤ c0_2) (hr0_3 : Kd.C k46 w A0_3 l0_3.length l0_3) (hc0_3 : l0_3.length ≤ c0_3) (h : semblancelaw15_SoundOf.f k a0_0 l0_1 l0_2 l0_3 = some r) :
  Calls Tryz.prog 3 #[.agg #[.string a0_0, .slice A0_1 l0_1.length c0_1, .slice A0_2 l0_2.length c0_2, .slice A0_3 l0_3.length c0_3]] w fun e w' => e = .returned (.bool r) ∧ Below w.heap.size w w' := by
 have hu26 := Tryz.underlying26
 have HR0_1 := Aside0.mk hr0_1
 have HC0_1 := Aside0.mk hc0_1
 clear hr0_1 hc0_1
 have HR0_2 := Aside0.mk hr0_2
 have HC0_2 := Aside0.mk hc0_2
 clear hr0_2 hc0_2
 have HR0_3 := Aside0.mk hr0_3
 have HC0_3 := Aside0.mk hc0_3
 clear hr0_3 hc0_3
 have HB := Aside0.mk (Below.refl w.heap.size w)
 unfold semblancelaw15_SoundOf.f at h
 have H := h
 clear h
 replace H := bi_ H; obtain ⟨t332, A2, H⟩ := H
 replace H := ib_ H; obtain ⟨rfl, H⟩ | ⟨rfl, H⟩ := H
 ·replace H := bi_ H; obtain ⟨t333, A119, H⟩ := H
  obtain rfl := Option.some.inj H
  go_enter Tryz.func3, Tryz.ntmps3
  go_wp2_with (first | ((with_reducible refine gate_dst (N := 1) rfl ?_); (try (refine gate_guard (by rfl) ?_; dsimp only)); refine bx_ HB (N := 1) (cs := #[.string a0_0, .slice A0_1 l0_1.length c0_1, .slice A0_2 l0_2.length c0_2, .slice A0_3 l0_3.length c0_3]) (t := 26) ?_; clear HB; intro gb331 w120 HB BK331 GW331 GE331; obtain ⟨z121_0, z121_1, z121_2, z121_3, y121_0, y121_1, y121_2, y121_3⟩ := cw4_ BK331.out) | ((with_reducible refine gate_callee (f := 6) rfl ?_); refine gl_ (some 6) Tryz.func6 #[.agg #[.string a0_0, .slice A0_1 l0_1.length c0_1, .slice A0_2 l0_2.length c0_2, .slice A0_3 l0_3.length c0_3]] ?_; (with_reducible refine cm_ (semblanceref12_Light.calls k a0_0 _ _ l0_1 _ _ l0_2 _ _ l0_3 false _ (kc_ HR0_1 HB) HC0_1.out (kc_ HR0_2 HB) HC0_2.out (kc_ HR0_3 HB) HC0_3.out A2.out) ?_); intro w122 hb; refine ⟨_, rfl, ?_⟩; replace BK331 := tb_ BK331 hb; replace HB := ts_ HB hb; clear hb) | ((with_reducible refine gate_callee (f := 7) rfl ?_); refine gl_ (some 8) Tryz.func7 #[] ?_; (with_reducible refine cm_ (semblancelaw15_awake.calls k  t333 _ A119.out) ?_); intro w123 hb; refine ⟨_, rfl, ?_⟩; replace BK331 := tb_ BK331 hb; replace HB := ts_ HB hb; clear hb))
  go_ret
  exact ⟨rv_, bw_⟩

 replace H := Option.bind_eq_some_iff.mp H
 obtain ⟨⟨t334, t337⟩, A40, H⟩ := H
 replace H : ((sound_Is.f k a0_0 l0_1 l0_2 l0_3).bind fun t338 => ((semblanceref15_Is.f k a0_0 l0_1 l0_2 l0_3).bind fun t339 => (if (t338 != t339) = true then (some false) else ((semblanceref12_May.f k a0_0 l0_1 l0_2 l0_3).bind fun t340 => (if t340 = true then (if t337 = 0 then ((semblanceref15_Of.f k a0_0 l0_1 l0_2 l0_3).bind fun t342 => ((semblanceref14_Same.f k t334 t342).bind fun t345 => (if t345 = true then ((sound_Is.f k a0_0 l0_1 l0_2 l0_3).bind fun t346 => (if (t346 == ((t334.length : Int) == 0)) = true then ((semblancelaw15_awake.f k).bind fun t347 => (some t347)) else (some false))) else (some false)))) else (some false)) else (if (t334.length : Int) = 0 then (if t337 = 1 then ((semblancelaw15_awake.f k).bind fun t341 => (some t341)) else (some false)) else (some false))))))) = some r := H
 have A4 := Aside0.mk A40
 clear A40
 replace H := bi_ H; obtain ⟨t338, A5, H⟩ := H
 replace H := bi_ H; obtain ⟨t339, A6, H⟩ := H
 have HZ_ := Aside0.mk H
 clear H
 go_enter Tryz.func3, Tryz.ntmps3
 try go_wp2_with (first | ((with_reducible refine gate_dst (N := 1) rfl ?_); (try (refine gate_guard (by rfl) ?_; dsimp only)); refine bx_ HB (N := 1) (cs := #[.string a0_0, .slice A0_1 l0_1.length c0_1, .slice A0_2 l0_2.length c0_2, .slice A0_3 l0_3.length c0_3]) (t := 26) ?_; clear HB; intro gb331 w8 HB BK331 GW331 GE331; obtain ⟨z9_0, z9_1, z9_2, z9_3, y9_0, y9_1, y9_2, y9_3⟩ := cw4_ BK331.out) | ((with_reducible refine gate_callee (f := 6) rfl ?_); refine gl_ (some 6) Tryz.func6 #[.agg #[.string a0_0, .slice A0_1 l0_1.length c0_1, .slice A0_2 l0_2.length c0_2, .slice A0_3 l0_3.length c0_3]] ?_; (with_reducible refine cm_ (semblanceref12_Light.calls k a0_0 _ _ l0_1 _ _ l0_2 _ _ l0_3 true _ (kc_ HR0_1 HB) HC0_1.out (kc_ HR0_2 HB) HC0_2.out (kc_ HR0_3 HB) HC0_3.out A2.out) ?_); intro w10 hb; refine ⟨_, rfl, ?_⟩; replace BK331 := tb_ BK331 hb; replace HB := ts_ HB hb; clear hb; obtain ⟨z11_0, z11_1, z11_2, z11_3, y11_0, y11_1, y11_2, y11_3⟩ := cw4_ BK331.out) | ((with_reducible refine gate_callee (f := 8) rfl ?_); refine gl_ (some 11) Tryz.func8 #[.agg #[.string a0_0, .slice A0_1 l0_1.length c0_1, .slice A0_2 l0_2.length c0_2, .slice A0_3 l0_3.length c0_3]] ?_; (with_reducible refine (sound_Of.calls k a0_0 _ _ l0_1 _ _ l0_2 _ _ l0_3 t334 t337 _ (kc_ HR0_1 HB) HC0_1.out (kc_ HR0_2 HB) HC0_2.out (kc_ HR0_3 HB) HC0_3.out A4.out).mono ?_); rintro e w12 ⟨v335, rfl, ho0, hb⟩; have hB_ := bu_ HB hb; refine ⟨_, rfl, ?_⟩; have HO336 := Aside0.mk (Kd.R_lower ho0 (below_size hB_)); replace BK331 := tb_ BK331 hb; replace HB := Aside0.mk (below_step hB_ hb); clear hb; (try clear ho0)))
 have n0_ := Aside0.mk (Kd.R_drew HO336.out)
 have n1_ := Aside0.mk (blk_drew BK331.out)
 have n2_ := Aside0.mk (below_drew1 HB.out)
 clear HO336
 clear BK331
 clear HB
 have HO336 := n0_
 have BK331 := n1_
 have HB := n2_
 clear n0_ n1_ n2_
 refine start_ (n := 5) (S := fun w' => w'.cell? ⟨gb331, 0, none⟩ = some (.string a0_0) ∧ w'.cell? ⟨gb331, 1, none⟩ = some (.slice A0_1 l0_1.length c0_1) ∧ w'.cell? ⟨gb331, 2, none⟩ = some (.slice A0_2 l0_2.length c0_2) ∧ w'.cell? ⟨gb331, 3, none⟩ = some (.slice A0_3 l0_3.length c0_3)) (ds := []) #[false, false, false, false, false] (by kernel_rfl) rfl rfl ⟨(blk_cell BK331.out 0).trans rfl, (blk_cell BK331.out 1).trans rfl, (blk_cell BK331.out 2).trans rfl, (blk_cell BK331.out 3).trans rfl⟩ (fun hHeld => ?_)
 generalize w12.drew = w13 at HO336 BK331 HB hHeld ⊢
 refine take_ (i := 0) (N := some 14) (v := ?_) (a' := ?_) #[true, false, false, false, false] rfl rfl (by kernel_rfl) (fun _ _ _ h => h) (Or.inl ⟨by rfl, ?_⟩) hHeld ?_ ?_
 rotate_left
 ·rintro w' ⟨s0, s1, s2, s3⟩
  go_simp
  with_reducible rfl
 rotate_left
 ·simp only [Act.put, sb_, s0_, s1_, i64_w, i32_w]
  rfl
 refine take_ (i := 2) (N := some 16) (v := ?_) (a' := ?_) #[true, false, true, false, false] rfl rfl (by kernel_rfl) (fun _ _ _ h => h) (Or.inl ⟨by rfl, ?_⟩) hHeld ?_ ?_
 rotate_left
 ·rintro w' ⟨s0, s1, s2, s3⟩
  go_simp
  with_reducible rfl
 rotate_left
 ·simp only [Act.put, sb_, s0_, s1_, i64_w, i32_w]
  rfl
 refine one_ (i := 1) (N := some 15) #[true, true, true, false, false] rfl rfl (by kernel_rfl) (by decide) (fun K hK => ?_)
 refine goes_ Tryz.func9 (by kernel_rfl) rfl #[.agg #[.string a0_0, .slice A0_1 l0_1.length c0_1, .slice A0_2 l0_2.length c0_2, .slice A0_3 l0_3.length c0_3]] (by rfl) rfl rfl (by (try simp only [List.map_toArray, List.map_cons, List.map_nil]); first | done | rfl | (simp only [List.length_drop, List.length_take]; rfl)) ?_
 with_reducible refine (sound_Is.calls k a0_0 _ _ l0_1 _ _ l0_2 _ _ l0_3 t338 _ ?side1 ?side2 ?side3 ?side4 ?side5 ?side6 A5.out).mono ?_
 (case side1 => repeat (first | exact (Kd.C_below HR0_1.out HB.out) | (with_reducible refine Kd.C_alloc ?_ _) | (with_reducible refine Kd.C_drewN ?_ _) | (with_reducible refine Kd.C_drew ?_)))
 (case side2 => exact HC0_1.out)
 (case side3 => repeat (first | exact (Kd.C_below HR0_2.out HB.out) | (with_reducible refine Kd.C_alloc ?_ _) | (with_reducible refine Kd.C_drewN ?_ _) | (with_reducible refine Kd.C_drew ?_)))
 (case side4 => exact HC0_2.out)
 (case side5 => repeat (first | exact (Kd.C_below HR0_3.out HB.out) | (with_reducible refine Kd.C_alloc ?_ _) | (with_reducible refine Kd.C_drewN ?_ _) | (with_reducible refine Kd.C_drew ?_)))
 (case side6 => exact HC0_3.out)
 rintro e w14 ⟨rfl, hb⟩
 refine ⟨_, rfl, ?_⟩
 have n0_ := Aside0.mk (Kd.R_below (kR_ HO336) hb)
 have n1_ := Aside0.mk (blk_below (grw BK331.out) hb)
 have n2_ := Aside0.mk (below_step bw_ hb)
 clear HO336
 clear BK331
 clear HB
 have HO336 := n0_
 have BK331 := n1_
 have HB := n2_
 clear n0_ n1_ n2_
 (try clear hb)
 (try clear hb2)
 (try clear hk)
 (try clear hi)
 refine hK.out _ _ ⟨(blk_cell BK331.out 0).trans rfl, (blk_cell BK331.out 1).trans rfl, (blk_cell BK331.out 2).trans rfl, (blk_cell BK331.out 3).trans rfl⟩ (fun hHeld => ?_)
 clear hK K
 refine norm_ (a' := ?_) ?_ ?_
 rotate_left
 ·show Act.put _ (some 15) _ = _
  simp only [Act.put, sb_, s0_, s1_, i64_w, i32_w]
  rfl
 refine one_ (i := 3) (N := some 17) #[true, true, true, true, false] rfl rfl (by kernel_rfl) (by decide) (fun K hK => ?_)
 refine goes_ Tryz.func10 (by kernel_rfl) rfl #[.agg #[.string a0_0, .slice A0_1 l0_1.length c0_1, .slice A0_2 l0_2.length c0_2, .slice A0_3 l0_3.length c0_3]] (by rfl) rfl rfl (by (try simp only [List.map_toArray, List.map_cons, List.map_nil]); first | done | rfl | (simp only [List.length_drop, List.length_take]; rfl)) ?_
 with_reducible refine (semblanceref15_Is.calls k a0_0 _ _ l0_1 _ _ l0_2 _ _ l0_3 t339 _ ?side1 ?side2 ?side3 ?side4 ?side5 ?side6 A6.out).mono ?_
 (case side1 => repeat (first | exact (Kd.C_below HR0_1.out HB.out) | (with_reducible refine Kd.C_alloc ?_ _) | (with_reducible refine Kd.C_drewN ?_ _) | (with_reducible refine Kd.C_drew ?_)))
 (case side2 => exact HC0_1.out)
 (case side3 => repeat (first | exact (Kd.C_below HR0_2.out HB.out) | (with_reducible refine Kd.C_alloc ?_ _) | (with_reducible refine Kd.C_drewN ?_ _) | (with_reducible refine Kd.C_drew ?_)))
 (case side4 => exact HC0_2.out)
 (case side5 => repeat (first | exact (Kd.C_below HR0_3.out HB.out) | (with_reducible refine Kd.C_alloc ?_ _) | (with_reducible refine Kd.C_drewN ?_ _) | (with_reducible refine Kd.C_drew ?_)))
 (case side6 => exact HC0_3.out)
 rintro e w15 ⟨rfl, hb⟩
 refine ⟨_, rfl, ?_⟩
 have n0_ := Aside0.mk (Kd.R_below (kR_ HO336) hb)
 have n1_ := Aside0.mk (blk_below (grw BK331.out) hb)
 have n2_ := Aside0.mk (below_step bw_ hb)
 clear HO336
 clear BK331
 clear HB
 have HO336 := n0_
 have BK331 := n1_
 have HB := n2_
 clear n0_ n1_ n2_
 (try clear hb)
 (try clear hb2)
 (try clear hk)
 (try clear hi)
 refine hK.out _ _ ⟨(blk_cell BK331.out 0).trans rfl, (blk_cell BK331.out 1).trans rfl, (blk_cell BK331.out 2).trans rfl, (blk_cell BK331.out 3).trans rfl⟩ (fun hHeld => ?_)
 clear hK K
 refine norm_ (a' := ?_) ?_ ?_
 rotate_left
 ·show Act.put _ (some 17) _ = _
  simp only [Act.put, sb_, s0_, s1_, i64_w, i32_w]
  rfl
 refine pure_ (i := 4) (N := some 18) (v := ?_) (a' := ?_) #[true, true, true, true, true] rfl rfl (by kernel_rfl) (fun _ _ _ h => h) (Or.inl ⟨by rfl, ?_⟩) ?_ ?_
 rotate_left
 ·intro w'
  go_simp
  with_reducible rfl
 rotate_left
 ·simp only [Act.put, sb_, s0_, s1_, i64_w, i32_w]
  rfl
 refine done_ (by kernel_rfl) ?_
 have H := HZ_.out
 clear HZ_
 replace H := id_ H; obtain ⟨c7, H⟩ | ⟨c7, H⟩ := H
 ·have c7b0 : (t338 != t339) = true := c7
  (try (have c7b4 : (!(t338 == t339)) = true := c7b0; rw [c7b4]))
  (try (have c7b1 : decide (t338 = t339) = false := by simpa using c7))
  (try (have c7b2 : (t338 == t339) = false := by simpa using c7))
  (try (have c7b3 : ¬ (t338 = t339) := by simpa using c7))
  clear c7
  obtain rfl := Option.some.inj H
  try go_wp2
  go_ret
  exact ⟨rv_, bw_⟩
 have c7b0 : (t338 != t339) = false := by simpa using c7
 (try (have c7b4 : (!(t338 == t339)) = false := c7b0; rw [c7b4]))
 (try (have c7b1 : decide (t338 = t339) = true := by simpa using c7))
 (try (have c7b2 : (t338 == t339) = true := by simpa using c7))
 clear c7
 replace H := bi_ H; obtain ⟨t340, A16, H⟩ := H
 replace H := ib_ H; obtain ⟨rfl, H⟩ | ⟨rfl, H⟩ := H
 ·by_cases c82 : (t334.length : Int) = 0
  rotate_left
  ·rw [if_neg c82] at H
   have c82b0 : ((t334.length : Int) == 0) = false := beq_eq_false_iff_ne.mpr c82
   have c82b1 : ((t334.length : Int) != 0) = true := bne_iff_ne.mpr c82
   have c82b2 : ¬ (t334 = []) := fun h_ => c82 (by rw [h_]; rfl)
   obtain rfl := Option.some.inj H
   obtain ⟨z116_0, z116_1, z116_2, z116_3, y116_0, y116_1, y116_2, y116_3⟩ := cw4_ BK331.out
   try go_wp2_with (first | ((with_reducible refine gate_callee (f := 11) rfl ?_); refine gl_ (some 20) Tryz.func11 #[.agg #[.string a0_0, .slice A0_1 l0_1.length c0_1, .slice A0_2 l0_2.length c0_2, .slice A0_3 l0_3.length c0_3]] ?_; (with_reducible refine cm_ (semblanceref12_May.calls k a0_0 _ _ l0_1 _ _ l0_2 _ _ l0_3 false _ (kc_ HR0_1 HB) HC0_1.out (kc_ HR0_2 HB) HC0_2.out (kc_ HR0_3 HB) HC0_3.out A16.out) ?_); intro w117 hb; refine ⟨_, rfl, ?_⟩; replace HO336 := Aside0.mk (Kd.R_below (kR_ HO336) hb); replace BK331 := tb_ BK331 hb; replace HB := ts_ HB hb; clear hb; obtain ⟨Ao118, co118, eo118⟩ := Kd.R_slice HO336.out; subst eo118))
   go_ret
   exact ⟨rv_, bw_⟩
  rw [if_pos c82] at H
  have c82b0 : ((t334.length : Int) == 0) = true := beq_iff_eq.mpr c82
  have c82b1 : ((t334.length : Int) != 0) = false := bne_eq_false_iff_eq.mpr c82
  clear c82
  replace H := ic_ H; obtain ⟨c83, H⟩ | ⟨c83, H⟩ := H
  ·have c83b0 : (t337 == 1) = false := beq_eq_false_iff_ne.mpr c83
   have c83b1 : (t337 != 1) = true := bne_iff_ne.mpr c83
   obtain rfl := Option.some.inj H
   obtain ⟨z105_0, z105_1, z105_2, z105_3, y105_0, y105_1, y105_2, y105_3⟩ := cw4_ BK331.out
   try go_wp2_with (first | ((with_reducible refine gate_callee (f := 11) rfl ?_); refine gl_ (some 20) Tryz.func11 #[.agg #[.string a0_0, .slice A0_1 l0_1.length c0_1, .slice A0_2 l0_2.length c0_2, .slice A0_3 l0_3.length c0_3]] ?_; (with_reducible refine cm_ (semblanceref12_May.calls k a0_0 _ _ l0_1 _ _ l0_2 _ _ l0_3 false _ (kc_ HR0_1 HB) HC0_1.out (kc_ HR0_2 HB) HC0_2.out (kc_ HR0_3 HB) HC0_3.out A16.out) ?_); intro w106 hb; refine ⟨_, rfl, ?_⟩; replace HO336 := Aside0.mk (Kd.R_below (kR_ HO336) hb); replace BK331 := tb_ BK331 hb; replace HB := ts_ HB hb; clear hb; obtain ⟨Ao107, co107, eo107⟩ := Kd.R_slice HO336.out; subst eo107))
   go_ret
   exact ⟨rv_, bw_⟩
  have c83b0 : (t337 == 1) = true := beq_iff_eq.mpr c83
  have c83b1 : (t337 != 1) = false := bne_eq_false_iff_eq.mpr c83
  clear c83
  replace H := bi_ H; obtain ⟨t341, A84, H⟩ := H
  obtain rfl := Option.some.inj H
  obtain ⟨z93_0, z93_1, z93_2, z93_3, y93_0, y93_1, y93_2, y93_3⟩ := cw4_ BK331.out
  try go_wp2_with (first | ((with_reducible refine gate_callee (f := 11) rfl ?_); refine gl_ (some 20) Tryz.func11 #[.agg #[.string a0_0, .slice A0_1 l0_1.length c0_1, .slice A0_2 l0_2.length c0_2, .slice A0_3 l0_3.length c0_3]] ?_; (with_reducible refine cm_ (semblanceref12_May.calls k a0_0 _ _ l0_1 _ _ l0_2 _ _ l0_3 false _ (kc_ HR0_1 HB) HC0_1.out (kc_ HR0_2 HB) HC0_2.out (kc_ HR0_3 HB) HC0_3.out A16.out) ?_); intro w94 hb; refine ⟨_, rfl, ?_⟩; replace HO336 := Aside0.mk (Kd.R_below (kR_ HO336) hb); replace BK331 := tb_ BK331 hb; replace HB := ts_ HB hb; clear hb; obtain ⟨Ao95, co95, eo95⟩ := Kd.R_slice HO336.out; subst eo95) | (go_at_call 7; (with_reducible refine cm_ (semblancelaw15_awake.calls k  t341 _ A84.out) ?_); intro w96 hb; replace HO336 := Aside0.mk (Kd.R_below (kR_ HO336) hb); replace BK331 := tb_ BK331 hb; replace HB := ts_ HB hb; clear hb))
  go_ret
  exact ⟨rv_, bw_⟩
 replace H := ic_ H; obtain ⟨c18, H⟩ | ⟨c18, H⟩ := H
 ·have c18b0 : (t337 == 0) = false := beq_eq_false_iff_ne.mpr c18
  have c18b1 : (t337 != 0) = true := bne_iff_ne.mpr c18
  obtain rfl := Option.some.inj H
  obtain ⟨z80_0, z80_1, z80_2, z80_3, y80_0, y80_1, y80_2, y80_3⟩ := cw4_ BK331.out
  try go_wp2_with (first | ((with_reducible refine gate_callee (f := 11) rfl ?_); refine gl_ (some 20) Tryz.func11 #[.agg #[.string a0_0, .slice A0_1 l0_1.length c0_1, .slice A0_2 l0_2.length c0_2, .slice A0_3 l0_3.length c0_3]] ?_; (with_reducible refine cm_ (semblanceref12_May.calls k a0_0 _ _ l0_1 _ _ l0_2 _ _ l0_3 true _ (kc_ HR0_1 HB) HC0_1.out (kc_ HR0_2 HB) HC0_2.out (kc_ HR0_3 HB) HC0_3.out A16.out) ?_); intro w81 hb; refine ⟨_, rfl, ?_⟩; replace HO336 := Aside0.mk (Kd.R_below (kR_ HO336) hb); replace BK331 := tb_ BK331 hb; replace HB := ts_ HB hb; clear hb))
  go_ret
  exact ⟨rv_, bw_⟩
 have c18b0 : (t337 == 0) = true := beq_iff_eq.mpr c18
 have c18b1 : (t337 != 0) = false := bne_eq_false_iff_eq.mpr c18
 clear c18
 replace H := bi_ H; obtain ⟨t342, A19, H⟩ := H
 replace H := bi_ H; obtain ⟨t345, A20, H⟩ := H
 replace H := ib_ H; obtain ⟨rfl, H⟩ | ⟨rfl, H⟩ := H
 ·obtain rfl := Option.some.inj H
  obtain ⟨z66_0, z66_1, z66_2, z66_3, y66_0, y66_1, y66_2, y66_3⟩ := cw4_ BK331.out
  try go_wp2_with (first | ((with_reducible refine gate_callee (f := 11) rfl ?_); refine gl_ (some 20) Tryz.func11 #[.agg #[.string a0_0, .slice A0_1 l0_1.length c0_1, .slice A0_2 l0_2.length c0_2, .slice A0_3 l0_3.length c0_3]] ?_; (with_reducible refine cm_ (semblanceref12_May.calls k a0_0 _ _ l0_1 _ _ l0_2 _ _ l0_3 true _ (kc_ HR0_1 HB) HC0_1.out (kc_ HR0_2 HB) HC0_2.out (kc_ HR0_3 HB) HC0_3.out A16.out) ?_); intro w67 hb; refine ⟨_, rfl, ?_⟩; replace HO336 := Aside0.mk (Kd.R_below (kR_ HO336) hb); replace BK331 := tb_ BK331 hb; replace HB := ts_ HB hb; clear hb; obtain ⟨z68_0, z68_1, z68_2, z68_3, y68_0, y68_1, y68_2, y68_3⟩ := cw4_ BK331.out) | (go_at_call 13; (with_reducible refine (semblanceref15_Of.calls k a0_0 _ _ l0_1 _ _ l0_2 _ _ l0_3 t342 _ (kc_ HR0_1 HB) HC0_1.out (kc_ HR0_2 HB) HC0_2.out (kc_ HR0_3 HB) HC0_3.out A19.out).mono ?_); rintro e w69 ⟨v343, rfl, ho0, hb⟩; have hB_ := bu_ HB hb; have HO344 := Aside0.mk (Kd.R_lower (Kd.R_new' ho0 (Kd.R_lt (kR_ HO336))) (below_size hB_)); replace HO336 := Aside0.mk (Kd.R_elder' (kR_ HO336) (Kd.R_base ho0) hb); replace BK331 := tb_ BK331 hb; replace HB := Aside0.mk (below_step hB_ hb); clear hb; (try clear ho0); obtain ⟨Ao70, co70, eo70⟩ := Kd.R_slice HO336.out; subst eo70; obtain ⟨Ao71, co71, eo71⟩ := Kd.R_slice HO344.out; subst eo71) | (go_at_call 12; (with_reducible refine (semblanceref14_Same.calls k _ _ t334 _ _ t342 false _ (kg_ (Kd.R_reads' HO336.out).2.2) (Kd.R_reads' HO336.out).2.1 (kg_ (Kd.R_reads' HO344.out).2.2) (Kd.R_reads' HO344.out).2.1 A20.out).mono ?_); rintro e w' ⟨rfl, ⟨nd, rfl⟩⟩))
  go_ret
  exact ⟨rv_, bw_⟩
 replace H := bi_ H; obtain ⟨t346, A22, H⟩ := H
 replace H := ic_ H; obtain ⟨c23, H⟩ | ⟨c23, H⟩ := H
 ·have c23b0 : (t346 == ((t334.length : Int) == 0)) = false := by simpa using c23
  (try (have c23b1 : decide (t346 = ((t334.length : Int) == 0)) = false := by simpa using c23))
  (try (have c23b2 : (t346 == ((t334.length : Int) == 0)) = false := by simpa using c23))
  (try (have c23b3 : ¬ (t346 = ((t334.length : Int) == 0)) := by simpa using c23))
  clear c23
  obtain rfl := Option.some.inj H
  obtain ⟨z50_0, z50_1, z50_2, z50_3, y50_0, y50_1, y50_2, y50_3⟩ := cw4_ BK331.out
  try go_wp2_with (first | ((with_reducible refine gate_callee (f := 11) rfl ?_); refine gl_ (some 20) Tryz.func11 #[.agg #[.string a0_0, .slice A0_1 l0_1.length c0_1, .slice A0_2 l0_2.length c0_2, .slice A0_3 l0_3.length c0_3]] ?_; (with_reducible refine cm_ (semblanceref12_May.calls k a0_0 _ _ l0_1 _ _ l0_2 _ _ l0_3 true _ (kc_ HR0_1 HB) HC0_1.out (kc_ HR0_2 HB) HC0_2.out (kc_ HR0_3 HB) HC0_3.out A16.out) ?_); intro w51 hb; refine ⟨_, rfl, ?_⟩; replace HO336 := Aside0.mk (Kd.R_below (kR_ HO336) hb); replace BK331 := tb_ BK331 hb; replace HB := ts_ HB hb; clear hb; obtain ⟨z52_0, z52_1, z52_2, z52_3, y52_0, y52_1, y52_2, y52_3⟩ := cw4_ BK331.out) | (go_at_call 13; (with_reducible refine (semblanceref15_Of.calls k a0_0 _ _ l0_1 _ _ l0_2 _ _ l0_3 t342 _ (kc_ HR0_1 HB) HC0_1.out (kc_ HR0_2 HB) HC0_2.out (kc_ HR0_3 HB) HC0_3.out A19.out).mono ?_); rintro e w53 ⟨v343, rfl, ho0, hb⟩; have hB_ := bu_ HB hb; have HO344 := Aside0.mk (Kd.R_lower (Kd.R_new' ho0 (Kd.R_lt (kR_ HO336))) (below_size hB_)); replace HO336 := Aside0.mk (Kd.R_elder' (kR_ HO336) (Kd.R_base ho0) hb); replace BK331 := tb_ BK331 hb; replace HB := Aside0.mk (below_step hB_ hb); clear hb; (try clear ho0); obtain ⟨Ao54, co54, eo54⟩ := Kd.R_slice HO336.out; subst eo54; obtain ⟨Ao55, co55, eo55⟩ := Kd.R_slice HO344.out; subst eo55) | (go_at_call 12; (with_reducible refine (semblanceref14_Same.calls k _ _ t334 _ _ t342 true _ (kg_ (Kd.R_reads' HO336.out).2.2) (Kd.R_reads' HO336.out).2.1 (kg_ (Kd.R_reads' HO344.out).2.2) (Kd.R_reads' HO344.out).2.1 A20.out).mono ?_); rintro e w' ⟨rfl, ⟨nd, rfl⟩⟩; obtain ⟨z56_0, z56_1, z56_2, z56_3, y56_0, y56_1, y56_2, y56_3⟩ := cw4_ BK331.out) | (go_at_call 9; (with_reducible refine (sound_Is.calls k a0_0 _ _ l0_1 _ _ l0_2 _ _ l0_3 t346 _ ?side1 HC0_1.out ?side3 HC0_2.out ?side5 HC0_3.out A22.out).mono ?_); (case side1 => repeat (first | exact (Kd.C_below HR0_1.out bw_) | (with_reducible refine Kd.C_alloc ?_ _) | (with_reducible refine Kd.C_drewN ?_ _) | (with_reducible refine Kd.C_drew ?_))); (case side3 => repeat (first | exact (Kd.C_below HR0_2.out bw_) | (with_reducible refine Kd.C_alloc ?_ _) | (with_reducible refine Kd.C_drewN ?_ _) | (with_reducible refine Kd.C_drew ?_))); (case side5 => repeat (first | exact (Kd.C_below HR0_3.out bw_) | (with_reducible refine Kd.C_alloc ?_ _) | (with_reducible refine Kd.C_drewN ?_ _) | (with_reducible refine Kd.C_drew ?_))); rintro e w57 ⟨rfl, hb⟩; replace HO336 := Aside0.mk (Kd.R_below (kR_ HO336) hb); replace HO344 := Aside0.mk (Kd.R_below (kR_ HO344) hb); replace BK331 := tb_ BK331 hb; replace HB := ts_ HB hb; clear hb))
  go_ret
  exact ⟨rv_, bw_⟩
 have c23b0 : (t346 == ((t334.length : Int) == 0)) = true := c23
 (try (have c23b1 : decide (t346 = ((t334.length : Int) == 0)) = true := by simpa using c23))
 (try (have c23b2 : (t346 == ((t334.length : Int) == 0)) = true := by simpa using c23))
 clear c23
 replace H := bi_ H; obtain ⟨t347, A24, H⟩ := H
 obtain rfl := Option.some.inj H
 obtain ⟨z33_0, z33_1, z33_2, z33_3, y33_0, y33_1, y33_2, y33_3⟩ := cw4_ BK331.out
 try go_wp2_with (first | ((with_reducible refine gate_callee (f := 11) rfl ?_); refine gl_ (some 20) Tryz.func11 #[.agg #[.string a0_0, .slice A0_1 l0_1.length c0_1, .slice A0_2 l0_2.length c0_2, .slice A0_3 l0_3.length c0_3]] ?_; (with_reducible refine cm_ (semblanceref12_May.calls k a0_0 _ _ l0_1 _ _ l0_2 _ _ l0_3 true _ (kc_ HR0_1 HB) HC0_1.out (kc_ HR0_2 HB) HC0_2.out (kc_ HR0_3 HB) HC0_3.out A16.out) ?_); intro w34 hb; refine ⟨_, rfl, ?_⟩; replace HO336 := Aside0.mk (Kd.R_below (kR_ HO336) hb); replace BK331 := tb_ BK331 hb; replace HB := ts_ HB hb; clear hb; obtain ⟨z35_0, z35_1, z35_2, z35_3, y35_0, y35_1, y35_2, y35_3⟩ := cw4_ BK331.out) | (go_at_call 13; (with_reducible refine (semblanceref15_Of.calls k a0_0 _ _ l0_1 _ _ l0_2 _ _ l0_3 t342 _ (kc_ HR0_1 HB) HC0_1.out (kc_ HR0_2 HB) HC0_2.out (kc_ HR0_3 HB) HC0_3.out A19.out).mono ?_); rintro e w36 ⟨v343, rfl, ho0, hb⟩; have hB_ := bu_ HB hb; have HO344 := Aside0.mk (Kd.R_lower (Kd.R_new' ho0 (Kd.R_lt (kR_ HO336))) (below_size hB_)); replace HO336 := Aside0.mk (Kd.R_elder' (kR_ HO336) (Kd.R_base ho0) hb); replace BK331 := tb_ BK331 hb; replace HB := Aside0.mk (below_step hB_ hb); clear hb; (try clear ho0); obtain ⟨Ao37, co37, eo37⟩ := Kd.R_slice HO336.out; subst eo37; obtain ⟨Ao38, co38, eo38⟩ := Kd.R_slice HO344.out; subst eo38) | (go_at_call 12; (with_reducible refine (semblanceref14_Same.calls k _ _ t334 _ _ t342 true _ (kg_ (Kd.R_reads' HO336.out).2.2) (Kd.R_reads' HO336.out).2.1 (kg_ (Kd.R_reads' HO344.out).2.2) (Kd.R_reads' HO344.out).2.1 A20.out).mono ?_); rintro e w' ⟨rfl, ⟨nd, rfl⟩⟩; obtain ⟨z39_0, z39_1, z39_2, z39_3, y39_0, y39_1, y39_2, y39_3⟩ := cw4_ BK331.out) | (go_at_call 9; (with_reducible refine (sound_Is.calls k a0_0 _ _ l0_1 _ _ l0_2 _ _ l0_3 t346 _ ?side1 HC0_1.out ?side3 HC0_2.out ?side5 HC0_3.out A22.out).mono ?_); (case side1 => repeat (first | exact (Kd.C_below HR0_1.out bw_) | (with_reducible refine Kd.C_alloc ?_ _) | (with_reducible refine Kd.C_drewN ?_ _) | (with_reducible refine Kd.C_drew ?_))); (case side3 => repeat (first | exact (Kd.C_below HR0_2.out bw_) | (with_reducible refine Kd.C_alloc ?_ _) | (with_reducible refine Kd.C_drewN ?_ _) | (with_reducible refine Kd.C_drew ?_))); (case side5 => repeat (first | exact (Kd.C_below HR0_3.out bw_) | (with_reducible refine Kd.C_alloc ?_ _) | (with_reducible refine Kd.C_drewN ?_ _) | (with_reducible refine Kd.C_drew ?_))); rintro e w40 ⟨rfl, hb⟩; replace HO336 := Aside0.mk (Kd.R_below (kR_ HO336) hb); replace HO344 := Aside0.mk (Kd.R_below (kR_ HO344) hb); replace BK331 := tb_ BK331 hb; replace HB := ts_ HB hb; clear hb) | (go_at_call 7; (with_reducible refine cm_ (semblancelaw15_awake.calls k  t347 _ A24.out) ?_); intro w41 hb; replace HO336 := Aside0.mk (Kd.R_below (kR_ HO336) hb); replace HO344 := Aside0.mk (Kd.R_below (kR_ HO344) hb); replace BK331 := tb_ BK331 hb; replace HB := ts_ HB hb; clear hb))
 go_ret
 exact ⟨rv_, bw_⟩
end Go.Proofs.YtbkaiojofgmbnaaGreat.XS
