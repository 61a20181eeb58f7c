/- Whatever list of texts and whatever text are handed in: the program's place of the text, and its twins of the list, are the reference's. No condition. -/
import Derived.Test.YtfpmbognpacidaaXFind
import Derived.Test.YtfpmbognpacidaaXFuel
import Derived.Test.YtfpmbognpacidaaXMlnames
import Derived.Test.YtfpmbognpacidaaXMlnames02
import Derived.Test.YtfpmbognpacidaaXMlsame
import Derived.Test.YtfpmbognpacidaaXMo
import Derived.Test.YtfpmbognpacidaaXMp17
import Derived.Test.YtfpmbognpacidaaXNamesPlain
namespace Go.Proofs.Ytfpmbognpacidaa.Pure
open Go.RowKit Go.Proofs.Ytfpmbognpacidaa.XRead Go.Proofs.Ytfpmbognpacidaa.XM Go.Proofs.YtfpmbognpacidaaW.PrintWords Go.Proofs.YtfpmbognpacidaaW.PrintLast Go.Proofs.YtfpmbognpacidaaW.PrintMore
open Go.Proofs.Ytfpmbognpacidaa.XFuel Go.Proofs.Ytfpmbognpacidaa.XNamesPlain Go.Proofs.Ytfpmbognpacidaa.XFind
set_option linter.unusedVariables false
set_option linter.unusedSimpArgs false
theorem place_lt (l : List ByteArray) (i : Nat) (hi : i < l.length) : idxF (hits (l.getD i ByteArray.empty)) l < (i : Int) ↔ (l.map bts).getD i [] ∈ (l.map bts).take i := by
  have hl : l.getD i ByteArray.empty = l[i] := by simp [List.getD, hi]
  have hm : (l.map bts).getD i [] = bts l[i] := by simp [List.getD, hi]
  rw [hl, hm]
  have hp : hits l[i] l[i] = true := by simp [hits]
  cases hf : l.findIdx? (hits l[i]) with
  | none =>
    rw [List.findIdx?_eq_none_iff] at hf
    have := hf l[i] (List.getElem_mem hi)
    rw [hp] at this
    cases this
  | some m =>
    have hv : idxF (hits l[i]) l = m := by simp [idxF, hf]
    rw [hv]
    rw [List.findIdx?_eq_some_iff_getElem] at hf
    obtain ⟨hm1, hm2, hm3⟩ := hf
    have hbm : bts l[m] = bts l[i] := by simpa [hits] using hm2
    constructor
    · intro h
      have h1 : m < i := by omega
      rw [← hbm]
      have h2 : m < ((l.map bts).take i).length := by rw [List.length_take, List.length_map]; omega
      have h3 : ((l.map bts).take i)[m] = bts l[m] := by simp
      rw [← h3]
      exact List.getElem_mem h2
    · intro h
      obtain ⟨j, hj, he⟩ := List.getElem_of_mem h
      rw [List.length_take, List.length_map] at hj
      have he' : bts (l[j]'(by omega)) = bts l[i] := by simpa using he
      rcases Nat.lt_or_ge j m with hjm | hjm
      · have := hm3 j hjm
        simp [hits, he'] at this
      · omega
theorem lists_loop (l : List ByteArray) (s : ByteArray) (hl : l.length ≤ 60) (hs : ∀ x ∈ l, x.size ≤ 200) : ∀ (d i : Nat) (x5 : List Int), l.length - i = d → i ≤ l.length → x5 = twn (l.map bts) i → Ev (fun k => semblancelaw02_NamesLists.l0 k l s x5 (i : Int)) true := by
  intro d
  induction d with
  | zero =>
    intro i x5 hd hi hx
    have h1 : ¬ ((i : Int) < (l.length : Int)) := by omega
    have hil : i = l.length := by omega
    apply Ev.succ
    simp only [semblancelaw02_NamesLists.l0, h1, if_false]
    refine Ev.bind (index_f l s (by omega)) (Ev.bind (place_f l s (by omega)) ?_)
    simp only [if_true, twins_f l (by omega) hs, Option.bind_some]
    have he : twinsF l = x5 := by rw [hx, hil]; rfl
    rw [he]
    have hlen : x5.length ≤ 100000 := by rw [hx]; have := twn_length (l.map bts) i; omega
    refine Ev.bind (same_self_f x5 hlen) ?_
    simp only [if_true]
    exact Ev.bind awake02 (Ev.now _)
  | succ d ih =>
    intro i x5 hd hi hx
    have hil : i < l.length := by omega
    have h1 : (i : Int) < (l.length : Int) := by omega
    have h2 : (0 : Int) ≤ (i : Int) := by omega
    have hr : rdOf ByteArray.empty l (i : Int) = l.getD i ByteArray.empty := by simp [rdOf]
    have hts := twn_succ (l.map bts) i
    have hlen : x5.length < 17592186044416 := by rw [hx]; have := twn_length (l.map bts) i; omega
    apply Ev.succ
    simp only [semblancelaw02_NamesLists.l0, h1, h2, hr, if_true]
    refine Ev.bind (place_f l (l.getD i ByteArray.empty) (by omega)) ?_
    by_cases hc : idxF (hits (l.getD i ByteArray.empty)) l < (i : Int)
    · simp only [hc, hlen, if_true]
      rw [wrap_succ (by omega)]
      exact ih (i + 1) _ (by omega) (by omega) (by rw [hts, if_pos ((place_lt l i hil).1 hc), hx])
    · simp only [hc, if_false]
      rw [wrap_succ (by omega)]
      exact ih (i + 1) _ (by omega) (by omega) (by rw [hts, if_neg (fun h => hc ((place_lt l i hil).2 h)), List.append_nil, hx])
theorem NamesLists : ∀ (l0 : List ByteArray) (a1 : ByteArray), (l0.length * 16 ≤ 140737488351232 ∧ ∀ y ∈ l0, y.size ≤ 140737488351232) → (a1.size ≤ 140737488351232) → ∃ k, semblancelaw02_NamesLists.f k l0 a1 = some true := by
  intro l s _ _
  refine Ev.rounds ?_
  have aw : Ev (fun k => semblancelaw02_NamesLists.j0 k l s true) true := by
    apply Ev.succ
    simp only [semblancelaw02_NamesLists.j0, if_true]
    exact Ev.bind awake02 (Ev.now _)
  unfold semblancelaw02_NamesLists.f
  by_cases h0 : (l.length : Int) > 60
  · simp only [h0, if_true]; exact aw
  · simp only [h0, if_false]
    obtain ⟨b, hb, hb2⟩ := long_f l (by omega)
    refine Ev.bind hb ?_
    cases b with
    | true => exact aw
    | false =>
      apply Ev.succ
      simp only [semblancelaw02_NamesLists.j0, Bool.false_eq_true, if_false]
      exact lists_loop l s (by omega) (hb2 rfl) l.length 0 [] (by omega) (by omega) rfl

end Go.Proofs.Ytfpmbognpacidaa.Pure
