/-
  Any flaws' lines are told as the definition tells them, and any rule's word; for all flaws, and all rules.
  Conditions: none but the given statement's own.
-/
import Derived.Test.YtbkaiojofgmbnaaXFind
import Derived.Test.YtbkaiojofgmbnaaXFuel
import Derived.Test.YtbkaiojofgmbnaaXLl
import Derived.Test.YtbkaiojofgmbnaaXLo
import Derived.Test.YtbkaiojofgmbnaaXLp2
import Derived.Test.YtbkaiojofgmbnaaXLp8
import Derived.Test.YtbkaiojofgmbnaaXLp9
namespace Go.Proofs.Ytbkaiojofgmbnaa.Pure
open Go.RowKit Go.Proofs.Ytbkaiojofgmbnaa.XRead Go.Proofs.Ytbkaiojofgmbnaa.XL Go.Proofs.YtbkaiojofgmbnaaW.PrintWords Go.Proofs.YtbkaiojofgmbnaaW.PrintLast Go.Proofs.YtbkaiojofgmbnaaW.PrintMore
open Go.Proofs.Ytbkaiojofgmbnaa.XFuel Go.Proofs.Ytbkaiojofgmbnaa.XFind
set_option linter.unusedVariables false
set_option linter.unusedSimpArgs false
theorem awake15_ev : Ev (fun k => semblancelaw15_awake.f k) true := Ev.of (fun k => semblancelaw15_awake.mono k) (k := 60) (by decide +kernel)
def wordOf (r : Int) : ByteArray := if 1 ≤ r ∧ r ≤ 10 then rdOf ByteArray.empty sound_Word.ws r else ⟨#[63]⟩
theorem word_or : ∀ n : Nat, n < 11 → cmp_Or_string.f [rdOf ByteArray.empty sound_Word.ws (n : Int), (⟨#[63]⟩ : ByteArray)] = some (wordOf (n : Int)) ∧ (wordOf (n : Int)).size ≤ 6
  | 0, _ => ⟨by decide +kernel, by decide +kernel⟩
  | 1, _ => ⟨by decide +kernel, by decide +kernel⟩
  | 2, _ => ⟨by decide +kernel, by decide +kernel⟩
  | 3, _ => ⟨by decide +kernel, by decide +kernel⟩
  | 4, _ => ⟨by decide +kernel, by decide +kernel⟩
  | 5, _ => ⟨by decide +kernel, by decide +kernel⟩
  | 6, _ => ⟨by decide +kernel, by decide +kernel⟩
  | 7, _ => ⟨by decide +kernel, by decide +kernel⟩
  | 8, _ => ⟨by decide +kernel, by decide +kernel⟩
  | 9, _ => ⟨by decide +kernel, by decide +kernel⟩
  | 10, _ => ⟨by decide +kernel, by decide +kernel⟩
  | n + 11, h => absurd h (by omega)
theorem ws_far {r : Int} (h : 11 ≤ r) : rdOf ByteArray.empty sound_Word.ws r = ByteArray.empty := by
  unfold rdOf
  rw [List.getD, List.getElem?_eq_none (show sound_Word.ws.length ≤ r.toNat by show 11 ≤ r.toNat; omega)]; rfl
theorem word_prog (r : Int) : ∃ w, sound_Word.f r = some w ∧ cmp_Or_string.f [w, (⟨#[63]⟩ : ByteArray)] = some (wordOf r) ∧ (wordOf r).size ≤ 6 := by
  by_cases h0 : r < 0
  · refine ⟨⟨#[]⟩, by unfold sound_Word.f; rw [if_pos h0], ?_⟩
    unfold wordOf
    rw [if_neg (by omega)]
    exact ⟨by decide +kernel, by decide +kernel⟩
  · refine ⟨_, by unfold sound_Word.f; rw [if_neg h0], ?_⟩
    by_cases h1 : r < 11
    · obtain ⟨n, rfl⟩ : ∃ n : Nat, r = n := ⟨r.toNat, by omega⟩
      exact word_or n (by omega)
    · rw [ws_far (by omega)]
      unfold wordOf
      rw [if_neg (by omega)]
      exact ⟨by decide +kernel, by decide +kernel⟩
def lineOf (y : S64) : ByteArray := (((wordOf y.f0 ++ (⟨#[32]⟩ : ByteArray)) ++ numT y.f1) ++ (⟨#[32]⟩ : ByteArray)) ++ numT y.f2
def FlOk (y : S64) : Prop := (-9223372036854775808 ≤ y.f1 ∧ y.f1 ≤ 9223372036854775807) ∧ (-9223372036854775808 ≤ y.f2 ∧ y.f2 ≤ 9223372036854775807)
theorem sp_size : (⟨#[32]⟩ : ByteArray).size = 1 := rfl
theorem lines_ev (l : List (S64)) (hl : l.length ≤ 60) (hb : ∀ y ∈ l, FlOk y) : Ev (fun k => sound_Lines.f k l) (l.map lineOf) := by
  have key : ∀ (d n : Nat) (acc : List ByteArray), l.length - n = d → n ≤ l.length → acc.length ≤ n → Ev (fun k => sound_Lines.l0 k acc l l.length n) (acc ++ (l.drop n).map lineOf) := by
    intro d
    induction d with
    | zero =>
      intro n acc hd hn ha
      have h1 : ¬ ((n : Int) < (l.length : Int)) := by omega
      apply Ev.succ
      rw [List.drop_of_length_le (by omega)]
      simp only [sound_Lines.l0, h1, if_false, List.map_nil, List.append_nil]
      exact Ev.now _
    | succ d ih =>
      intro n acc hd hn ha
      have h1 : (n : Int) < (l.length : Int) := by omega
      have h2 : (0 : Int) ≤ (n : Int) := by omega
      have hg : n < l.length := by omega
      have hr : rd_T64 l (n : Int) = l[n] := by simp [rd_T64, hg]
      obtain ⟨b1, b2⟩ := hb l[n] (List.getElem_mem hg)
      obtain ⟨w, hw1, hw2, hw3⟩ := word_prog l[n].f0
      have s1 := numT_size l[n].f1
      have s2 := numT_size l[n].f2
      have c1 : (wordOf l[n].f0).size + 1 ≤ 9223372036854775807 := by omega
      have c2 : (wordOf l[n].f0 ++ (⟨#[32]⟩ : ByteArray)).size + (numT l[n].f1).size ≤ 9223372036854775807 := by rw [ByteArray.size_append, sp_size]; omega
      have c3 : ((wordOf l[n].f0 ++ (⟨#[32]⟩ : ByteArray)) ++ numT l[n].f1).size + 1 ≤ 9223372036854775807 := by rw [ByteArray.size_append, ByteArray.size_append, sp_size]; omega
      have c4 : (((wordOf l[n].f0 ++ (⟨#[32]⟩ : ByteArray)) ++ numT l[n].f1) ++ (⟨#[32]⟩ : ByteArray)).size + (numT l[n].f2).size ≤ 9223372036854775807 := by rw [ByteArray.size_append, ByteArray.size_append, ByteArray.size_append, sp_size]; omega
      have c5 : acc.length < 8796093022208 := by omega
      apply Ev.succ
      simp only [sound_Lines.l0, h1, h2, hr, if_true, hw1, Option.bind_some, hw2, c1, put_prog _ b1.1 b1.2, c2, c3, put_prog _ b2.1 b2.2, c4, c5, wrap_succ (show n < 9223372036854775807 by omega)]
      refine Ev.eq (ih (n + 1) _ (by omega) (by omega) (by rw [List.length_append]; simp; omega)) ?_
      rw [List.drop_eq_getElem_cons hg, List.map_cons, List.append_assoc]
      rfl
  exact Ev.eq (key _ 0 [] rfl (Nat.zero_le _) (Nat.le_refl _)) (by simp)
theorem SoundLines : ∀ (l0 : List (S64)) (a1 : Int), (l0.length * 24 ≤ 140737488351232 ∧ ∀ y ∈ l0, F64 y) → ((Lit.int .i64 a1).wf = true) → ∃ k, semblancelaw15_SoundLines.f k l0 a1 = some true := by
  intro l a1 hl0 _
  suffices h : Ev (fun k => semblancelaw15_SoundLines.f k l a1) true by
    obtain ⟨K, hK⟩ := h
    exact ⟨K, hK K (Nat.le_refl _)⟩
  have hb : ∀ y ∈ l, FlOk y := fun y hy => by
    obtain ⟨_, h1, h2⟩ := hl0.2 y hy
    exact ⟨wf_int h1, wf_int h2⟩
  unfold semblancelaw15_SoundLines.f
  by_cases h60 : (l.length : Int) > 60
  · simp only [h60, if_true]
    exact Ev.bind awake15_ev (Ev.now _)
  simp only [h60, if_false]
  have hL := lines_ev l (by omega) hb
  have hws : semblanceref15_Words.f = some sound_Word.ws := rfl
  have hwl : (sound_Word.ws.length : Int) = 11 := rfl
  simp only [hws, Option.bind_some]
  -- the lines, one by one
  have loop : ∀ (d n : Nat), l.length - n = d → n ≤ l.length → Ev (fun k => semblancelaw15_SoundLines.l0 k l sound_Word.ws (l.map lineOf) n) true := by
    intro d
    induction d with
    | zero =>
      intro n hd hn
      have h1 : ¬ ((n : Int) < (l.length : Int)) := by omega
      apply Ev.succ
      simp only [semblancelaw15_SoundLines.l0, h1, if_false]
      exact Ev.bind awake15_ev (Ev.now _)
    | succ d ih =>
      intro n hd hn
      have h1 : (n : Int) < (l.length : Int) := by omega
      have h2 : (0 : Int) ≤ (n : Int) := by omega
      have hg : n < l.length := by omega
      have hr : rd_T64 l (n : Int) = l[n] := by simp [rd_T64, hg]
      have hm : rdOf ByteArray.empty (l.map lineOf) (n : Int) = lineOf l[n] := by simp [rdOf, hg]
      have h3 : (n : Int) < ((l.map lineOf).length : Int) := by rw [List.length_map]; exact h1
      obtain ⟨b1, b2⟩ := hb l[n] (List.getElem_mem hg)
      have hw3 : (wordOf l[n].f0).size ≤ 6 := by obtain ⟨_, _, _, h⟩ := word_prog l[n].f0; exact h
      have s1 := numT_size l[n].f1
      have s2 := numT_size l[n].f2
      have c1 : (wordOf l[n].f0).size + 1 ≤ 9223372036854775807 := by omega
      have c2 : (wordOf l[n].f0 ++ (⟨#[32]⟩ : ByteArray)).size + (numT l[n].f1).size ≤ 9223372036854775807 := by rw [ByteArray.size_append, sp_size]; omega
      have c3 : ((wordOf l[n].f0 ++ (⟨#[32]⟩ : ByteArray)) ++ numT l[n].f1).size + 1 ≤ 9223372036854775807 := by rw [ByteArray.size_append, ByteArray.size_append, sp_size]; omega
      have c4 : (((wordOf l[n].f0 ++ (⟨#[32]⟩ : ByteArray)) ++ numT l[n].f1) ++ (⟨#[32]⟩ : ByteArray)).size + (numT l[n].f2).size ≤ 9223372036854775807 := by rw [ByteArray.size_append, ByteArray.size_append, ByteArray.size_append, sp_size]; omega
      have j5 : Ev (fun k => semblancelaw15_SoundLines.j5 k l sound_Word.ws (l.map lineOf) n (wordOf l[n].f0)) true := by
        apply Ev.succ
        simp only [semblancelaw15_SoundLines.j5, h1, h2, h3, if_true, c1, hr, hm]
        refine Ev.bind (put_ref _ b1.1 b1.2) ?_
        simp only [c2, c3, if_true]
        refine Ev.bind (put_ref _ b2.1 b2.2) ?_
        simp only [c4, if_true, lineOf, wrap_succ (show n < 9223372036854775807 by omega)]
        exact ih (n + 1) (by omega) (by omega)
      apply Ev.succ
      simp only [semblancelaw15_SoundLines.l0, h1, h2, if_true, hr]
      by_cases h4 : l[n].f0 ≥ 1
      · simp only [h4, if_true]
        apply Ev.succ
        by_cases h5 : l[n].f0 ≤ 10
        · have h6 : (0 : Int) ≤ l[n].f0 := by omega
          have h7 : l[n].f0 < 11 := by omega
          have h8 : wordOf l[n].f0 = rdOf ByteArray.empty sound_Word.ws l[n].f0 := by unfold wordOf; rw [if_pos ⟨h4, h5⟩]
          rw [h8] at j5
          simp only [semblancelaw15_SoundLines.j4, h5, decide_true, if_true, h1, h2, hr, h6, hwl, h7]
          exact j5
        · have h8 : wordOf l[n].f0 = ⟨#[63]⟩ := by unfold wordOf; rw [if_neg (by omega)]
          rw [h8] at j5
          simp only [semblancelaw15_SoundLines.j4, h5, decide_false, Bool.false_eq_true, if_false]
          exact j5
      · have h8 : wordOf l[n].f0 = ⟨#[63]⟩ := by unfold wordOf; rw [if_neg (by omega)]
        rw [h8] at j5
        simp only [h4, if_false]
        apply Ev.succ
        simp only [semblancelaw15_SoundLines.j4, Bool.false_eq_true, if_false]
        exact j5
  have j1 : ∀ w : ByteArray, sound_Word.f a1 = some w → ∀ v : ByteArray, v.toList = w.toList → Ev (fun k => semblancelaw15_SoundLines.j1 k l a1 sound_Word.ws v) true := fun w hw v hv => by
    have h5 : (((l.map lineOf).length : Int) != (l.length : Int)) = false := by rw [List.length_map]; simp
    apply Ev.succ
    simp only [semblancelaw15_SoundLines.j1]
    refine Ev.bind hL ?_
    simp only [hw, Option.bind_some, hv, if_true, h5]
    apply Ev.succ
    simp only [semblancelaw15_SoundLines.j2, Bool.false_eq_true, if_false]
    exact loop _ 0 rfl (Nat.zero_le _)
  by_cases h0 : a1 ≥ 0
  · have hw : sound_Word.f a1 = some (rdOf ByteArray.empty sound_Word.ws a1) := by unfold sound_Word.f; rw [if_neg (by omega)]
    simp only [h0, if_true, hwl]
    apply Ev.succ
    by_cases h1 : a1 < 11
    · simp only [semblancelaw15_SoundLines.j0, h1, decide_true, if_true, h0, hwl]
      have h2 : (0 : Int) ≤ a1 := h0
      try simp only [h2, if_true]
      exact j1 _ hw _ rfl
    · simp only [semblancelaw15_SoundLines.j0, h1, decide_false, Bool.false_eq_true, if_false]
      exact j1 _ hw _ (by rw [ws_far (by omega)]; rfl)
  · have hw : sound_Word.f a1 = some ⟨#[]⟩ := by unfold sound_Word.f; rw [if_pos (by omega)]
    simp only [h0, if_false]
    apply Ev.succ
    simp only [semblancelaw15_SoundLines.j0, Bool.false_eq_true, if_false]
    exact j1 _ hw _ rfl

end Go.Proofs.Ytbkaiojofgmbnaa.Pure
