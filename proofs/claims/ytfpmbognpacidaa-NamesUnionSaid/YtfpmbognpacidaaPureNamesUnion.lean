/- Whatever two lists of texts are handed in: the program's union of them is the reference's, is the same with the lists changed over, is its own union with itself, stands in strict order, and holds nothing that neither list holds. No condition. -/
import Derived.Sort.Walk0
import Derived.Test.YtfpmbognpacidaaXFind
import Derived.Test.YtfpmbognpacidaaXFuel
import Derived.Test.YtfpmbognpacidaaXNamesPlain
import Derived.Test.YtfpmbognpacidaaXUlnames
import Derived.Test.YtfpmbognpacidaaXUlnames02
import Derived.Test.YtfpmbognpacidaaXUo
import Derived.Test.YtfpmbognpacidaaXUp2
import Derived.Test.YtfpmbognpacidaaXUp3
import Derived.Test.YtfpmbognpacidaaXUp4
import Derived.Test.YtfpmbognpacidaaXUp5
namespace Go.Proofs.Ytfpmbognpacidaa.Pure
open Go.RowKit Go.Proofs.Ytfpmbognpacidaa.XRead Go.Proofs.Ytfpmbognpacidaa.XU Go.Proofs.YtfpmbognpacidaaW.PrintWords Go.Proofs.YtfpmbognpacidaaW.PrintLast Go.Proofs.YtfpmbognpacidaaW.PrintMore
open Go.Proofs.Ytfpmbognpacidaa.XFuel Go.Proofs.Ytfpmbognpacidaa.XNamesPlain Go.Proofs.Ytfpmbognpacidaa.XFind
set_option linter.unusedVariables false
set_option linter.unusedSimpArgs false
def Str (l : List ByteArray) : Prop := (l.map bts).Pairwise (fun x y => x < y)
theorem cut_map (l : List ByteArray) (n : Nat) : l.map bts = (l.take n).map bts ++ (l.drop n).map bts := by rw [← List.map_append, List.take_append_drop]
theorem str_ins (l : List ByteArray) (s : ByteArray) (n : Nat) (hn : n ≤ l.length) (h : Str l) (hm : bts s ∉ l.map bts)
    (hlo : ∀ j : Nat, j < n → bts (l.getD j ByteArray.empty) < bts s) (hhi : n < l.length → ¬ bts (l.getD n ByteArray.empty) < bts s) : Str ((l.take n ++ [s]) ++ l.drop n) := by
  unfold Str at h ⊢
  rw [cut_map l n, List.pairwise_append] at h
  obtain ⟨h1, h2, h3⟩ := h
  have hlo' : ∀ x ∈ (l.take n).map bts, x < bts s := by
    intro x hx
    obtain ⟨y, hy, rfl⟩ := List.mem_map.1 hx
    obtain ⟨j, hj, rfl⟩ := List.getElem_of_mem hy
    rw [List.length_take] at hj
    have := hlo j (by omega)
    have hjl : j < l.length := by omega
    simpa [List.getD, hjl] using this
  have hhi' : ∀ y ∈ (l.drop n).map bts, bts s < y := by
    intro y hy
    by_cases hl : n < l.length
    · have hg : l.getD n ByteArray.empty = l[n] := by simp [List.getD, hl]
      have h4 := hhi hl
      rw [hg] at h4
      have hne : bts s ≠ bts l[n] := fun e => hm (by rw [e]; exact List.mem_map_of_mem (List.getElem_mem hl))
      have hlt : bts s < bts l[n] := lt_of_le_ne (List.not_lt.1 h4) hne
      rw [List.drop_eq_getElem_cons hl, List.map_cons] at hy h2
      rw [List.pairwise_cons] at h2
      rcases List.mem_cons.1 hy with e | hy
      · rw [e]; exact hlt
      · exact List.lt_trans hlt (h2.1 y hy)
    · rw [List.drop_of_length_le (by omega)] at hy; cases hy
  have he : ((l.take n ++ [s]) ++ l.drop n).map bts = (l.take n).map bts ++ (bts s :: (l.drop n).map bts) := by simp
  rw [he, List.pairwise_append, List.pairwise_cons]
  refine ⟨h1, ⟨hhi', h2⟩, fun x hx y hy => ?_⟩
  rcases List.mem_cons.1 hy with e | hy
  · rw [e]; exact hlo' x hx
  · exact h3 x hx y hy
theorem mem_ins (l : List ByteArray) (s : ByteArray) (n : Nat) (x : List UInt8) : x ∈ ((l.take n ++ [s]) ++ l.drop n).map bts ↔ x = bts s ∨ x ∈ l.map bts := by
  have he : ((l.take n ++ [s]) ++ l.drop n).map bts = (l.take n).map bts ++ (bts s :: (l.drop n).map bts) := by simp
  rw [he, cut_map l n, List.mem_append, List.mem_cons, List.mem_append]
  constructor
  · rintro (h | h | h)
    · exact .inr (.inl h)
    · exact .inl h
    · exact .inr (.inr h)
  · rintro (h | h | h)
    · exact .inr (.inl h)
    · exact .inl h
    · exact .inr (.inr h)
theorem len_ins (l : List ByteArray) (s : ByteArray) (n : Nat) (hn : n ≤ l.length) : ((l.take n ++ [s]) ++ l.drop n).length = l.length + 1 := by
  simp only [List.length_append, List.length_take, List.length_drop, List.length_cons, List.length_nil]; omega
theorem union_l1 (a b x5 : List ByteArray) (x6 : Int) (s : ByteArray) (r : List ByteArray) (hl : x5.length ≤ 100000) (hst : Str x5) (hns : bts s ∉ x5.map bts)
    (go : ∀ x5' : List ByteArray, Str x5' → (∀ x, x ∈ x5'.map bts ↔ x = bts s ∨ x ∈ x5.map bts) → x5'.length = x5.length + 1 → Ev (fun k => semblanceref02_Union.l0 k a b x5' (wrap64 (x6 + 1))) r) :
    ∀ (d n : Nat), x5.length - n = d → n ≤ x5.length → (∀ j : Nat, j < n → bts (x5.getD j ByteArray.empty) < bts s) → Ev (fun k => semblanceref02_Union.l1 k a b x5 x6 s (n : Int)) r := by
  intro d
  induction d with
  | zero =>
    intro n hd hn hp
    have h1 : ¬ ((n : Int) < (x5.length : Int)) := by omega
    have h2 : (0 : Int) ≤ (n : Int) := by omega
    have h3 : (n : Int) ≤ (x5.length : Int) := by omega
    have q1 : (x5.drop n).length < 8796093022208 := by rw [List.length_drop]; omega
    have q2 : (x5.take n).length < 8796093022208 := by rw [List.length_take]; omega
    have q3 : (x5.take n ++ [s]).length + (x5.drop n).length < 8796093022208 := by have := len_ins x5 s n hn; rw [List.length_append] at this; omega
    apply Ev.succ
    simp only [semblanceref02_Union.l1, h1, h2, h3, if_true, if_false, Option.bind_some, Int.toNat_natCast, List.nil_append, List.length_nil, Nat.zero_add, q1, q2, q3]
    exact go _ (str_ins x5 s n hn hst hns hp (fun h => absurd h (by omega))) (mem_ins x5 s n) (len_ins x5 s n hn)
  | succ d ih =>
    intro n hd hn hp
    have h1 : (n : Int) < (x5.length : Int) := by omega
    have h2 : (0 : Int) ≤ (n : Int) := by omega
    have h3 : (n : Int) ≤ (x5.length : Int) := by omega
    have hr : rdOf ByteArray.empty x5 (n : Int) = x5.getD n ByteArray.empty := by simp [rdOf]
    have hb : Op.bytesLess (x5.getD n ByteArray.empty).toList s.toList = decide (bts (x5.getD n ByteArray.empty) < bts s) := by rw [tl_bts, tl_bts, Go.Proofs.bytesLess_eq]
    by_cases hc : bts (x5.getD n ByteArray.empty) < bts s
    · apply Ev.succ
      simp only [semblanceref02_Union.l1, h1, h2, hr, hb, hc, decide_true, if_true]
      rw [wrap_succ (by omega)]
      exact ih (n + 1) (by omega) (by omega) (fun j hj => by
        by_cases e : j = n
        · subst e; exact hc
        · exact hp j (by omega))
    · have q1 : (x5.drop n).length < 8796093022208 := by rw [List.length_drop]; omega
      have q2 : (x5.take n).length < 8796093022208 := by rw [List.length_take]; omega
      have q3 : (x5.take n ++ [s]).length + (x5.drop n).length < 8796093022208 := by have := len_ins x5 s n hn; rw [List.length_append] at this; omega
      apply Ev.succ
      simp only [semblanceref02_Union.l1, h1, h2, h3, hr, hb, hc, decide_false, Bool.false_eq_true, if_true, if_false, Option.bind_some, Int.toNat_natCast, List.nil_append, List.length_nil, Nat.zero_add, q1, q2, q3]
      exact go _ (str_ins x5 s n hn hst hns hp (fun _ => hc)) (mem_ins x5 s n) (len_ins x5 s n hn)
theorem place_mem (l : List ByteArray) (s : ByteArray) : 0 ≤ idxF (hits s) l ↔ bts s ∈ l.map bts := by
  have h := idxF_any (hits s) l
  have h2 : 0 ≤ idxF (hits s) l ↔ l.any (hits s) = true := by rw [← h, decide_eq_true_eq]
  rw [h2, List.any_eq_true, List.mem_map]
  constructor
  · rintro ⟨x, hx, e⟩; exact ⟨x, hx, of_decide_eq_true e⟩
  · rintro ⟨x, hx, e⟩; exact ⟨x, hx, decide_eq_true e⟩
theorem union_l0 (a b : List ByteArray) (ha : a.length ≤ 1000) (hb : b.length ≤ 1000) : ∀ (d i : Nat) (x5 : List ByteArray), a.length + b.length - i = d → i ≤ a.length + b.length → Str x5 → (∀ x, x ∈ x5.map bts ↔ x ∈ ((a ++ b).map bts).take i) → x5.length ≤ i →
    Ev (fun k => semblanceref02_Union.l0 k a b x5 (i : Int)) (unionF a b) := by
  intro d
  have hw : wrap64 ((a.length : Int) + (b.length : Int)) = (a.length : Int) + (b.length : Int) := wrap_in (by omega) (by omega)
  have hlen : ((a ++ b).map bts).length = a.length + b.length := by rw [List.length_map, List.length_append]
  induction d with
  | zero =>
    intro i x5 hd hi hst hmem hx
    have h1 : ¬ ((i : Int) < (a.length : Int) + (b.length : Int)) := by omega
    apply Ev.succ
    simp only [semblanceref02_Union.l0, hw, h1, if_false]
    refine Ev.eq (Ev.now _) ?_
    have he : x5.map bts = unionL ((a ++ b).map bts) := strict_ext _ _ hst (unionL_strict _) (fun x => by rw [hmem, mem_unionL, List.take_of_length_le (by omega)])
    unfold unionF
    rw [← he, List.map_map]
    have : (mk ∘ bts) = id := by funext x; exact mk_bts x
    rw [this, List.map_id]
  | succ d ih =>
    intro i x5 hd hi hst hmem hx
    have h1 : (i : Int) < (a.length : Int) + (b.length : Int) := by omega
    have h2 : (0 : Int) ≤ (i : Int) := by omega
    have hil : i < ((a ++ b).map bts).length := by omega
    have hts : ((a ++ b).map bts).take (i + 1) = ((a ++ b).map bts).take i ++ [((a ++ b).map bts)[i]] := List.take_succ_eq_append_getElem hil
    have step : ∀ s : ByteArray, bts s = ((a ++ b).map bts)[i] → Ev (fun k => semblanceref02_Union.j1 k a b x5 (i : Int) s) (unionF a b) := by
      intro s hs
      apply Ev.succ
      simp only [semblanceref02_Union.j1]
      refine Ev.bind (place_f x5 s (by omega)) ?_
      by_cases hp : 0 ≤ idxF (hits s) x5
      · simp only [ge_iff_le, hp, if_true]
        rw [wrap_succ (by omega)]
        have hin := (place_mem x5 s).1 hp
        refine ih (i + 1) x5 (by omega) (by omega) hst (fun x => ?_) (by omega)
        rw [hts, List.mem_append, List.mem_singleton, ← hs, hmem x]
        constructor
        · exact .inl
        · rintro (h | h)
          · exact h
          · rw [h]; exact (hmem _).1 hin
      · simp only [ge_iff_le, hp, if_false]
        have hin : bts s ∉ x5.map bts := fun h => hp ((place_mem x5 s).2 h)
        refine union_l1 a b x5 (i : Int) s _ (by omega) hst hin (fun x5' g1 g2 g3 => ?_) x5.length 0 (by omega) (by omega) (fun j hj => absurd hj (by omega))
        rw [wrap_succ (by omega)]
        refine ih (i + 1) x5' (by omega) (by omega) g1 (fun x => ?_) (by omega)
        rw [hts, List.mem_append, List.mem_singleton, ← hs, g2 x, hmem x]
        exact or_comm
    apply Ev.succ
    by_cases hia : i < a.length
    · have h3 : (i : Int) < (a.length : Int) := by omega
      have hr : rdOf ByteArray.empty a (i : Int) = a.getD i ByteArray.empty := by simp [rdOf]
      simp only [semblanceref02_Union.l0, hw, h1, h2, h3, hr, if_true]
      refine step _ ?_
      have : a.getD i ByteArray.empty = a[i] := by simp [List.getD, hia]
      rw [this, List.getElem_map, List.getElem_append_left hia]
    · have h3 : ¬ ((i : Int) < (a.length : Int)) := by omega
      have hv : wrap64 ((i : Int) - (a.length : Int)) = ((i - a.length : Nat) : Int) := by rw [wrap_in (by omega) (by omega)]; omega
      have h4 : (0 : Int) ≤ ((i - a.length : Nat) : Int) := by omega
      have h5 : ((i - a.length : Nat) : Int) < (b.length : Int) := by omega
      have hib : i - a.length < b.length := by omega
      have hr : rdOf ByteArray.empty b ((i - a.length : Nat) : Int) = b.getD (i - a.length) ByteArray.empty := by simp [rdOf]
      simp only [semblanceref02_Union.l0, hw, h1, h3, hv, h4, h5, hr, if_true, if_false]
      refine step _ ?_
      have : b.getD (i - a.length) ByteArray.empty = b[i - a.length] := by simp [List.getD, hib]
      rw [this, List.getElem_map, List.getElem_append_right (by omega)]
theorem ref_union (a b : List ByteArray) (ha : a.length ≤ 1000) (hb : b.length ≤ 1000) : Ev (fun k => semblanceref02_Union.f k a b) (unionF a b) := by
  unfold semblanceref02_Union.f
  exact union_l0 a b ha hb (a.length + b.length) 0 [] (by omega) (by omega) (by unfold Str; exact List.Pairwise.nil) (fun x => by simp) (by simp)
theorem texts_ex (xs : List ByteArray) (hx : xs.length ≤ 100000) : ∀ (d n : Nat), xs.length - n = d → n ≤ xs.length → Ev (fun k => semblanceref01_Texts.l0 k xs xs n) true := by
  intro d
  induction d with
  | zero =>
    intro n hd hn
    have h1 : ¬ ((n : Int) < (xs.length : Int)) := by omega
    apply Ev.succ
    simp only [semblanceref01_Texts.l0, h1, if_false]
    exact Ev.now _
  | succ d ih =>
    intro n hd hn
    have h1 : (n : Int) < (xs.length : Int) := by omega
    have h2 : (0 : Int) ≤ (n : Int) := by omega
    apply Ev.succ
    simp only [semblanceref01_Texts.l0, h1, h2, if_true]
    rw [wrap_succ (by omega)]
    exact ih (n + 1) (by omega) (by omega)
theorem texts_f (xs : List ByteArray) (hx : xs.length ≤ 100000) : Ev (fun k => semblanceref01_Texts.f k xs xs) true := by
  simp only [semblanceref01_Texts.f, if_true]
  exact texts_ex xs hx xs.length 0 (by omega) (by omega)
theorem place_all (a : List ByteArray) (ha : a.length ≤ 100000) : ∀ (l : List ByteArray), ∃ K, ∀ k, K ≤ k → ∀ s ∈ l, semblanceref02_Place.f k a s = some (idxF (hits s) a)
  | [] => ⟨0, fun _ _ s hs => by cases hs⟩
  | x :: l => by
    obtain ⟨K, h⟩ := place_all a ha l
    obtain ⟨K1, h1⟩ := place_f a x ha
    refine ⟨K + K1, fun k hk s hs => ?_⟩
    rcases List.mem_cons.1 hs with rfl | hs
    · exact h1 k (by omega)
    · exact h k (by omega) s hs
theorem unionF_map (a b : List ByteArray) : (unionF a b).map bts = unionL ((a ++ b).map bts) := by
  unfold unionF
  rw [List.map_map]
  have : (bts ∘ mk) = id := by funext x; exact bts_mk x
  rw [this, List.map_id]
theorem unionF_len (a b : List ByteArray) : (unionF a b).length ≤ a.length + b.length := by
  unfold unionF
  have := unionL_length ((a ++ b).map bts)
  rw [List.length_map]
  rw [List.length_map, List.length_append] at this
  exact this
theorem unionF_comm (a b : List ByteArray) : unionF b a = unionF a b := by
  unfold unionF
  congr 1
  refine strict_ext _ _ (unionL_strict _) (unionL_strict _) (fun x => ?_)
  rw [mem_unionL, mem_unionL, List.map_append, List.map_append, List.mem_append, List.mem_append]
  exact or_comm
theorem unionF_idem (a b : List ByteArray) : unionF (unionF a b) (unionF a b) = unionF a b := by
  have h : unionL ((unionF a b ++ unionF a b).map bts) = unionL ((a ++ b).map bts) := by
    refine strict_ext _ _ (unionL_strict _) (unionL_strict _) (fun x => ?_)
    rw [mem_unionL, List.map_append, List.mem_append, or_self, unionF_map]
  show (unionL ((unionF a b ++ unionF a b).map bts)).map mk = (unionL ((a ++ b).map bts)).map mk
  rw [h]
theorem union_rd (a b : List ByteArray) (i : Nat) (hi : i < (unionF a b).length) : semblancelaw02_NamesUnion.rd (unionF a b) i = (unionF a b)[i] := by
  unfold semblancelaw02_NamesUnion.rd
  simp [rdOf, List.getD, hi]
theorem union_good (k : Nat) (a b : List ByteArray) (ga : ∀ s ∈ unionF a b, semblanceref02_Place.f k a s = some (idxF (hits s) a)) (gb : ∀ s ∈ unionF a b, semblanceref02_Place.f k b s = some (idxF (hits s) b)) (i : Nat) (hi : i < (unionF a b).length) :
    semblancelaw02_NamesUnion.Good k a b (unionF a b) i := by
  have hin : (unionF a b)[i] ∈ unionF a b := List.getElem_mem hi
  refine ⟨fun h0 => ?_, ?_⟩
  · rw [union_rd a b i hi, union_rd a b (i - 1) (by omega), tl_bts, tl_bts, Go.Proofs.bytesLess_eq]
    apply decide_eq_true
    have hs := unionL_strict ((a ++ b).map bts)
    rw [← unionF_map, List.pairwise_iff_getElem] at hs
    have := hs (i - 1) i (by rw [List.length_map]; omega) (by rw [List.length_map]; omega) (by omega)
    simpa using this
  · rw [union_rd a b i hi]
    generalize (unionF a b)[i] = s at *
    have hm : bts s ∈ (a ++ b).map bts := by
      rw [← mem_unionL, ← unionF_map]; exact List.mem_map_of_mem hin
    rw [List.map_append, List.mem_append] at hm
    by_cases h : 0 ≤ idxF (hits s) a
    · exact .inl ⟨_, ga s hin, h⟩
    · refine .inr ⟨_, ga s hin, by omega, _, gb s hin, ?_⟩
      exact (place_mem b s).2 (hm.resolve_left (fun h' => h ((place_mem a s).2 h')))
theorem prog_union (a b : List ByteArray) (ha : a.length ≤ 1000000) (hb : b.length ≤ 1000000) : names_Union.f a b = some (unionF a b) := by
  unfold names_Union.f
  rw [if_pos ⟨ha, hb⟩]
theorem NamesUnion : ∀ (l0 : List ByteArray) (l1 : List ByteArray), (l0.length * 16 ≤ 140737488351232 ∧ ∀ y ∈ l0, y.size ≤ 140737488351232) → (l1.length * 16 ≤ 140737488351232 ∧ ∀ y ∈ l1, y.size ≤ 140737488351232) → ∃ k, semblancelaw02_NamesUnion.f k l0 l1 = some true := by
  intro a b _ _
  obtain ⟨K, hK⟩ := awake02
  by_cases ha : 60 < a.length
  · refine ⟨K, ?_⟩
    unfold semblancelaw02_NamesUnion.f
    rw [if_pos (hK K (Nat.le_refl _)), if_pos ha]
  by_cases hb : 60 < b.length
  · refine ⟨K, ?_⟩
    unfold semblancelaw02_NamesUnion.f
    rw [if_pos (hK K (Nat.le_refl _)), if_neg ha, if_pos hb]
  obtain ⟨la, ⟨K1, h1⟩, -⟩ := long_f a (by omega)
  obtain ⟨lb, ⟨K2, h2⟩, -⟩ := long_f b (by omega)
  obtain ⟨K3, h3⟩ := ref_union a b (by omega) (by omega)
  have hlen := unionF_len a b
  obtain ⟨K4, h4⟩ := texts_f (unionF a b) (by omega)
  obtain ⟨K5, h5⟩ := place_all a (by omega) (unionF a b)
  obtain ⟨K6, h6⟩ := place_all b (by omega) (unionF a b)
  refine ⟨K + K1 + K2 + K3 + K4 + K5 + K6, ?_⟩
  have g0 := hK (K + K1 + K2 + K3 + K4 + K5 + K6) (by omega)
  have g1 := h1 (K + K1 + K2 + K3 + K4 + K5 + K6) (by omega)
  have g2 := h2 (K + K1 + K2 + K3 + K4 + K5 + K6) (by omega)
  have g3 := h3 (K + K1 + K2 + K3 + K4 + K5 + K6) (by omega)
  have g4 := h4 (K + K1 + K2 + K3 + K4 + K5 + K6) (by omega)
  have g5 := h5 (K + K1 + K2 + K3 + K4 + K5 + K6) (by omega)
  have g6 := h6 (K + K1 + K2 + K3 + K4 + K5 + K6) (by omega)
  generalize K + K1 + K2 + K3 + K4 + K5 + K6 = M at *
  replace g0 : semblancelaw02_awake.f M = some true := g0
  replace g1 : semblancelaw02_long.f M a 200 = some la := g1
  replace g2 : semblancelaw02_long.f M b 200 = some lb := g2
  replace g3 : semblanceref02_Union.f M a b = some (unionF a b) := g3
  replace g4 : semblanceref01_Texts.f M (unionF a b) (unionF a b) = some true := g4
  unfold semblancelaw02_NamesUnion.f
  rw [if_pos g0, if_neg ha, if_neg hb, g1, Option.bind_some]
  cases la with
  | true => rw [if_pos rfl]
  | false =>
    rw [if_neg (by simp), g2, Option.bind_some]
    cases lb with
    | true => rw [if_pos rfl]
    | false =>
      rw [if_neg (by simp), prog_union a b (by omega) (by omega), Option.bind_some, g3, Option.bind_some, prog_union b a (by omega) (by omega), unionF_comm, Option.bind_some, prog_union (unionF a b) (unionF a b) (by omega) (by omega), unionF_idem, Option.bind_some]
      exact if_pos ⟨g4, g4, g4, fun i hi => union_good M a b g5 g6 i hi⟩

end Go.Proofs.Ytfpmbognpacidaa.Pure
