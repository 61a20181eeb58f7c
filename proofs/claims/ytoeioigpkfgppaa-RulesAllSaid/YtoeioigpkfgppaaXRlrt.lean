import Derived.Test.YtoeioigpkfgppaaXFind
import Derived.Test.YtoeioigpkfgppaaXFuel
import Derived.Test.YtoeioigpkfgppaaXRlterm
import Derived.Test.YtoeioigpkfgppaaXRo
import Derived.Test.YtoeioigpkfgppaaXRp12
import Derived.Test.YtoeioigpkfgppaaXRp2
import Derived.Test.YtoeioigpkfgppaaXRp4
import Derived.Test.YtoeioigpkfgppaaXRp5
import Derived.Test.YtoeioigpkfgppaaXRp8
import Derived.Test.YtoeioigpkfgppaaXRp9
import Derived.Test.YtoeioigpkfgppaaXTermPlain
namespace Go.Proofs.Ytoeioigpkfgppaa.XR
open Go.RowKit Go.Proofs.Ytoeioigpkfgppaa.XRead Go.Proofs.Ytoeioigpkfgppaa.XR Go.Proofs.YtoeioigpkfgppaaW.PrintWords Go.Proofs.YtoeioigpkfgppaaW.PrintLast Go.Proofs.YtoeioigpkfgppaaW.PrintMore
open Go.Proofs.Ytoeioigpkfgppaa.TermPlain Go.Proofs.Ytoeioigpkfgppaa.XFuel
set_option linter.unusedVariables false
set_option linter.unusedSimpArgs false
/-! ### what a fold reckons -/
def mkV (l : List (S47)) (MK : Int → List Int → Int) (i : Nat) (vs : List Int) : Int := MK (opOf l i) vs
def vI (l : List (S47)) (MK : Int → List Int → Int) : Nat → Int := val (aOf l) l.length (mkV l MK)
theorem whole_prog (l : List (S47)) : Ev (fun k => term_whole.f k l) (decide (l.length ≤ 40 ∧ E (aOf l) l.length 0 = some l.length)) := by
  simp only [term_whole.f]
  by_cases h0 : (l.length : Int) > 0
  · by_cases h1 : (l.length : Int) ≤ 40
    · simp only [h0, h1, if_true]
      refine Ev.bind (end_prog_f l (by omega) ((0 : Nat) : Int)) (Ev.const ?_)
      rw [EI_nat]
      congr 1
      rw [Bool.eq_iff_iff, beq_iff_eq, decide_eq_true_eq]
      cases he : E (aOf l) l.length 0 with
      | none => simp [toI] <;> omega
      | some e => simp [toI] <;> omega
    · simp only [h0, h1, if_true, if_false]
      refine Ev.const ?_
      rw [decide_eq_false (by omega)]
  · simp only [h0, if_false]
    refine Ev.const ?_
    rw [decide_eq_false]
    intro h
    have := E_lt h.2
    omega
theorem whole_ref (l : List (S47)) : Ev (fun k => semblanceref05_Whole.f k l) (decide (l.length ≤ 40 ∧ E (aOf l) l.length 0 = some l.length)) := by
  simp only [semblanceref05_Whole.f]
  by_cases h1 : (l.length : Int) ≤ 40
  · simp only [h1, if_true]
    refine Ev.bind (end_ref_f l (by omega) ((0 : Nat) : Int)) (Ev.const ?_)
    rw [EI_nat]
    congr 1
    rw [Bool.eq_iff_iff, beq_iff_eq, decide_eq_true_eq]
    cases he : E (aOf l) l.length 0 with
    | none => simp [toI] <;> omega
    | some e => simp [toI] <;> omega
  · simp only [h1, if_false]
    refine Ev.const ?_
    rw [decide_eq_false (by omega)]
theorem fold_go (l : List (S47)) (hl : l.length ≤ 40) (hw : E (aOf l) l.length 0 = some l.length) {mk : Nat → Int → List Int → Option Int} {MK : Int → List Int → Int} (hmk : ∀ op vs, Ev (fun k => mk k op vs) (MK op vs)) :
    ∀ (n : Nat) (come : List Int), n ≤ l.length → come.length = l.length → (∀ j : Nat, n ≤ j → j < l.length → rd come j = vI l MK j) →
    ∃ c, Ev (fun k => term_fold.go k (mk k) l n come) c ∧ c.length = l.length ∧ ∀ j : Nat, j < l.length → rd c j = vI l MK j := by
  intro n
  induction n with
  | zero => intro come _ hc hv; exact ⟨come, Ev.now _, hc, fun j hj => hv j (Nat.zero_le _) hj⟩
  | succ n ih =>
    intro come hn hc hv
    obtain ⟨e, he⟩ := all_end hw n (by omega)
    have hlen : (blI l n).length ≤ 2 := by
      unfold blI bl
      rw [List.length_map, starts_length]
      have : aOf l n = ar (opOf l n) := rfl
      have := ar_le (opOf l n)
      omega
    have hin : ∀ j ∈ bl (aOf l) l.length n, n < j ∧ j < l.length := fun j hj => ⟨(bl_end he hj).1, (bl_end he hj).2.1⟩
    have hvals : term_fold.vals come (blI l n) = some ((bl (aOf l) l.length n).map (vI l MK)) := by
      unfold term_fold.vals
      rw [if_pos (by omega), if_pos]
      · unfold blI
        rw [List.map_map]
        congr 1
        apply List.map_congr_left
        intro j hj
        exact hv j (by have := (hin j hj).1; omega) (hin j hj).2
      · rw [List.all_eq_true]
        intro x hx
        obtain ⟨j, hj, rfl⟩ := List.mem_map.1 hx
        have := (hin j hj).2
        simp only [Bool.and_eq_true, decide_eq_true_eq]
        omega
    have hval : vI l MK n = MK (opOf l n) ((bl (aOf l) l.length n).map (vI l MK)) := val_eq (by omega)
    obtain ⟨c, hc1, hc2⟩ := ih (come.set n (vI l MK n)) (by omega) (by rw [List.length_set, hc]) (by
      intro j hj1 hj2
      by_cases h : j = n
      · subst h
        simp [rd, show j < come.length by omega]
      · have := hv j (by omega) hj2
        rw [← this]
        simp [rd, List.getElem?_set, show ¬ n = j by omega])
    refine ⟨c, ?_, hc2⟩
    simp only [term_fold.go]
    refine Ev.bind (below_prog_f l (by omega) n e he) ?_
    simp only [hvals, Option.bind_some]
    refine Ev.bind (hmk _ _) ?_
    have hop : (rd_T47 l (n : Int)).f0 = opOf l n := rfl
    rw [hop, ← hval]
    exact hc1
/-- a fold of a whole expression is what it comes to; of another, naught -/
theorem fold_prog (l : List (S47)) {mk : Nat → Int → List Int → Option Int} {MK : Int → List Int → Int} (hmk : ∀ op vs, Ev (fun k => mk k op vs) (MK op vs)) :
    Ev (fun k => term_fold.f k (mk k) l) (if l.length ≤ 40 ∧ E (aOf l) l.length 0 = some l.length then vI l MK 0 else 0) := by
  simp only [term_fold.f]
  refine Ev.bind (whole_prog l) ?_
  by_cases h : l.length ≤ 40 ∧ E (aOf l) l.length 0 = some l.length
  · have h1 := E_lt h.2
    rw [if_pos h]
    simp only [decide_eq_true h, if_true]
    simp only [show 1 ≤ l.length ∧ l.length ≤ 40 from ⟨by omega, h.1⟩, and_self, if_true]
    obtain ⟨c, hc1, _, hc2⟩ := fold_go l h.1 h.2 hmk l.length (List.replicate l.length 0) (Nat.le_refl _) (by simp) (fun j h1 h2 => by omega)
    refine Ev.bind hc1 (Ev.const ?_)
    exact congrArg some (hc2 0 (by omega))
  · rw [if_neg h]
    simp only [decide_eq_false h, Bool.false_eq_true, if_false]
    exact Ev.now _

/-! ### depth -/
def mx (a b : Int) : Int := if a < b then b else a
theorem mx_zero (l : List Int) : ∀ x : Int, mx (l.foldl mx x) 0 = l.foldl mx (mx 0 x) := by
  induction l with
  | nil => intro x; simp only [List.foldl_nil, mx]; repeat' split
           all_goals omega
  | cons y l ih =>
    intro x
    rw [List.foldl_cons, List.foldl_cons, ih]
    congr 1
    simp only [mx]
    repeat' split
    all_goals omega
def MKd (_op : Int) (vs : List Int) : Int := wrap64 (vs.foldl mx 0 + 1)
theorem depth_ref (l : List (S47)) (hl : l.length ≤ 40) (hw : E (aOf l) l.length 0 = some l.length) : ∀ (d i : Nat), l.length - i ≤ d → i < l.length → Ev (fun k => semblanceref05_Depth.f k l i) (vI l MKd i) := by
  intro d
  induction d with
  | zero => intro i hd hi; omega
  | succ d ih =>
    intro i hd hi
    obtain ⟨e, he⟩ := all_end hw i hi
    have hin : ∀ j ∈ bl (aOf l) l.length i, i < j ∧ j < l.length := fun j hj => ⟨(bl_end he hj).1, (bl_end he hj).2.1⟩
    have hval : vI l MKd i = wrap64 (((bl (aOf l) l.length i).map (vI l MKd)).foldl mx 0 + 1) := val_eq hi
    have hlen : (bl (aOf l) l.length i).length ≤ 2 := by
      unfold bl
      rw [starts_length]
      have : aOf l i = ar (opOf l i) := rfl
      have := ar_le (opOf l i)
      omega
    apply Ev.succ
    simp only [semblanceref05_Depth.f]
    refine Ev.bind (below_ref_f l (by omega) i e he) ?_
    rw [hval]
    generalize hB : bl (aOf l) l.length i = B at hin hlen
    have hb : blI l i = B.map Nat.cast := by unfold blI; rw [hB]
    rw [hb]
    clear hval hb
    have loop : ∀ (q n : Nat) (m : Int), B.length - n = q → n ≤ B.length → Ev (fun k => semblanceref05_Depth.l0 k l m (B.map Nat.cast) n) (wrap64 (((B.drop n).map (vI l MKd)).foldl mx m + 1)) := by
      intro q
      induction q with
      | zero =>
        intro n m hq hn
        apply Ev.succ
        have h1 : ¬ ((n : Int) < ((B.map Nat.cast : List Int).length : Int)) := by simp; omega
        simp only [semblanceref05_Depth.l0, h1, if_false]
        rw [List.drop_of_length_le (by omega)]
        exact Ev.now _
      | succ q ihq =>
        intro n m hq hn
        have hg : n < B.length := by omega
        have h1 : (n : Int) < ((B.map Nat.cast : List Int).length : Int) := by simp; omega
        have h2 : (0 : Int) ≤ (n : Int) := by omega
        have hr : rd (B.map Nat.cast) (n : Int) = (B[n] : Nat) := by simp [rd, hg]
        have hj := hin B[n] (List.getElem_mem hg)
        apply Ev.succ
        simp only [semblanceref05_Depth.l0, h1, h2, if_true, hr]
        refine Ev.bind (ih B[n] (by omega) hj.2) ?_
        rw [List.drop_eq_getElem_cons hg, List.map_cons, List.foldl_cons, wrap_succ (by omega)]
        by_cases hc : vI l MKd B[n] > m
        · simp only [hc, if_true]
          have : mx m (vI l MKd B[n]) = vI l MKd B[n] := if_pos hc
          rw [this]
          exact ihq (n + 1) _ (by omega) (by omega)
        · simp only [hc, if_false]
          have : mx m (vI l MKd B[n]) = m := if_neg hc
          rw [this]
          exact ihq (n + 1) _ (by omega) (by omega)
    exact loop _ 0 0 rfl (Nat.zero_le _)

/-! ### type -/
def takes (op : Int) : Int := if op ≤ 8 then 1 else if op ≤ 12 then 2 else if op ≥ 19 then 2 else 1
def MKt (op : Int) (vs : List Int) : Int := if vs.any (fun x => x != takes op) = true then 0 else if op ≤ 8 then 1 else 2
theorem mk_type (op : Int) (vs : List Int) : Ev (fun k => term_typed.f k op vs) (MKt op vs) := by
  have j0 : ∀ (b : Bool) (c d : Int), Ev (fun k => term_typed.j0 k vs c d b) (if vs.any (fun x => x != if b = true then 2 else c) = true then 0 else d) := by
    intro b c d
    apply Ev.succ
    cases b with
    | true =>
      simp only [term_typed.j0, if_true, term_all.f, Option.bind_some]
      refine Ev.const ?_
      cases vs.any (fun x => x != 2) <;> rfl
    | false =>
      simp only [term_typed.j0, Bool.false_eq_true, if_false, term_all.f, Option.bind_some]
      refine Ev.const ?_
      cases vs.any (fun x => x != c) <;> rfl
  simp only [term_typed.f]
  unfold MKt takes
  by_cases h8 : op ≤ 8
  · simp only [h8, if_true, term_all.f, Option.bind_some]
    refine Ev.const ?_
    cases vs.any (fun x => x != 1) <;> rfl
  · by_cases h12 : op ≤ 12
    · simp only [h8, h12, if_true, if_false]
      exact Ev.eq (j0 true 1 2) (by simp only [if_true])
    · simp only [h8, h12, if_false]
      refine Ev.eq (j0 (decide (op ≥ 19)) 1 2) ?_
      simp only [decide_eq_true_eq]
theorem type_ref (l : List (S47)) (hl : l.length ≤ 40) (hw : E (aOf l) l.length 0 = some l.length) : ∀ (d i : Nat), l.length - i ≤ d → i < l.length → Ev (fun k => semblanceref05_Type.f k l i) (vI l MKt i) := by
  intro d
  induction d with
  | zero => intro i hd hi; omega
  | succ d ih =>
    intro i hd hi
    obtain ⟨e, he⟩ := all_end hw i hi
    have h1 : (0 : Int) ≤ (i : Int) := by omega
    have h2 : (i : Int) < (l.length : Int) := by omega
    have hop : (rd_T47 l (i : Int)).f0 = opOf l i := rfl
    have hin : ∀ j ∈ bl (aOf l) l.length i, i < j ∧ j < l.length := fun j hj => ⟨(bl_end he hj).1, (bl_end he hj).2.1⟩
    have hval : vI l MKt i = MKt (opOf l i) ((bl (aOf l) l.length i).map (vI l MKt)) := val_eq hi
    have hem : opOf l i ≤ 11 → 9 ≤ opOf l i → bl (aOf l) l.length i = [] := by
      intro h3 h4
      have : aOf l i = 0 := by
        show ar (opOf l i) = 0
        unfold ar
        rw [if_neg (by omega), if_neg (by omega), if_neg (by omega), if_pos (by omega)]
      unfold bl
      rw [this]
      rfl
    have hlen : (bl (aOf l) l.length i).length ≤ 2 := by
      unfold bl
      rw [starts_length]
      have : aOf l i = ar (opOf l i) := rfl
      have := ar_le (opOf l i)
      omega
    apply Ev.succ
    simp only [semblanceref05_Type.f, h1, h2, if_true, hop]
    refine Ev.bind (below_ref_f l (by omega) i e he) ?_
    rw [hval]
    generalize opOf l i = op at *
    generalize hB : bl (aOf l) l.length i = B at hin hlen hem
    have hb : blI l i = B.map Nat.cast := by unfold blI; rw [hB]
    rw [hb]
    clear hval hb
    have loop : ∀ (t : Int) (q n : Nat), B.length - n = q → n ≤ B.length → Ev (fun k => semblanceref05_Type.l0 k l op (B.map Nat.cast) t n) (if ((B.drop n).map (vI l MKt)).any (fun x => x != t) = true then 0 else if op ≤ 8 then 1 else 2) := by
      intro t q
      induction q with
      | zero =>
        intro n hq hn
        apply Ev.succ
        have h1 : ¬ ((n : Int) < ((B.map Nat.cast : List Int).length : Int)) := by simp; omega
        simp only [semblanceref05_Type.l0, h1, if_false]
        rw [List.drop_of_length_le (by omega)]
        simp only [List.map_nil, List.any_nil, Bool.false_eq_true, if_false]
        refine Ev.const ?_
        split <;> rfl
      | succ q ihq =>
        intro n hq hn
        have hg : n < B.length := by omega
        have h1 : (n : Int) < ((B.map Nat.cast : List Int).length : Int) := by simp; omega
        have h2 : (0 : Int) ≤ (n : Int) := by omega
        have hr : rd (B.map Nat.cast) (n : Int) = (B[n] : Nat) := by simp [rd, hg]
        have hj := hin B[n] (List.getElem_mem hg)
        apply Ev.succ
        simp only [semblanceref05_Type.l0, h1, h2, if_true, hr]
        refine Ev.bind (ih B[n] (by omega) hj.2) ?_
        rw [List.drop_eq_getElem_cons hg, List.map_cons, List.any_cons, wrap_succ (by omega)]
        by_cases hc : vI l MKt B[n] = t
        · have hb : (vI l MKt B[n] != t) = false := by simp [hc]
          simp only [hc, if_true]
          simp only [bne_self_eq_false, Bool.false_or]
          exact ihq (n + 1) (by omega) (by omega)
        · have hb : (vI l MKt B[n] != t) = true := by simp [hc]
          simp only [hc, if_false, hb, Bool.true_or, if_true]
          exact Ev.now _
    have j1 : ∀ t : Int, Ev (fun k => semblanceref05_Type.j1 k l op (B.map Nat.cast) t) (if (B.map (vI l MKt)).any (fun x => x != t) = true then 0 else if op ≤ 8 then 1 else 2) := by
      intro t
      apply Ev.succ
      simp only [semblanceref05_Type.j1]
      exact loop t _ 0 rfl (Nat.zero_le _)
    have j0 : ∀ b : Bool, Ev (fun k => semblanceref05_Type.j0 k l op (B.map Nat.cast) 1 b) (if (B.map (vI l MKt)).any (fun x => x != if b = true then 2 else 1) = true then 0 else if op ≤ 8 then 1 else 2) := by
      intro b
      apply Ev.succ
      cases b with
      | true => simp only [semblanceref05_Type.j0, if_true]; exact j1 2
      | false => simp only [semblanceref05_Type.j0, Bool.false_eq_true, if_false]; exact j1 1
    have hM : ∀ op vs, MKt op vs = if vs.any (fun x => x != takes op) = true then 0 else if op ≤ 8 then 1 else 2 := fun _ _ => rfl
    rw [hM op (B.map (vI l MKt))]
    unfold takes
    by_cases h12 : op = 12
    · have h8 : ¬ (op ≤ 8) := by omega
      have h2 : (if op ≤ 8 then (1 : Int) else if op ≤ 12 then 2 else if op ≥ 19 then 2 else 1) = 2 := by rw [if_neg h8, if_pos (by omega)]
      rw [h2]
      have := j0 true
      simp only [if_true] at this
      simp only [h12, if_true] at this ⊢
      exact this
    · simp only [h12, if_false]
      by_cases h9 : 9 ≤ op ∧ op ≤ 11
      · have hB0 := hem h9.2 h9.1
        rw [hB0] at j0 ⊢
        exact j0 _
      · refine Ev.eq (j0 _) ?_
        have : (if decide (op ≥ 19) = true then (2 : Int) else 1) = (if op ≤ 8 then 1 else if op ≤ 12 then 2 else if op ≥ 19 then 2 else 1) := by
          simp only [decide_eq_true_eq]
          repeat' split
          all_goals omega
        rw [this]
/-! ### whether a text is a name, a term stands right: there is an answer of everything -/
theorem place_any (l : List ByteArray) (s : ByteArray) (hl : l.length ≤ 1000) : ∃ r, Ev (fun k => semblanceref02_Place.f k l s) r := by
  have key : ∀ (d n : Nat), l.length - n = d → n ≤ l.length → ∃ r, Ev (fun k => semblanceref02_Place.l0 k l s n) r := by
    intro d
    induction d with
    | zero =>
      intro n hd hn
      have h1 : ¬ ((n : Int) < (l.length : Int)) := by omega
      exact ⟨_, Ev.succ (by simp only [semblanceref02_Place.l0, h1, if_false]; exact Ev.now _)⟩
    | succ d ih =>
      intro n hd hn
      have h1 : (n : Int) < (l.length : Int) := by omega
      have h2 : (0 : Int) ≤ (n : Int) := by omega
      by_cases h : (rdOf ByteArray.empty l (n : Int)).toList = s.toList
      · exact ⟨_, Ev.succ (by simp only [semblanceref02_Place.l0, h1, h2, h, if_true]; exact Ev.now _)⟩
      · obtain ⟨r, hr⟩ := ih (n + 1) (by omega) (by omega)
        exact ⟨r, Ev.succ (by simp only [semblanceref02_Place.l0, h1, h2, h, if_true, if_false, wrap_succ (show n < 9223372036854775807 by omega)]; exact hr)⟩
  exact key _ 0 rfl (Nat.zero_le _)
theorem is_loop (s : ByteArray) (hs : s.size ≤ 12) : ∀ (d n : Nat), s.size - n = d → n ≤ s.size → ∃ b, Ev (fun k => semblanceref02_Is.l0 k s n) b := by
  intro d
  induction d with
  | zero =>
    intro n hd hn
    have h1 : ¬ ((n : Int) < (s.size : Int)) := by omega
    exact ⟨_, Ev.succ (by simp only [semblanceref02_Is.l0, h1, if_false]; exact Ev.now _)⟩
  | succ d ih =>
    intro n hd hn
    have h1 : (n : Int) < (s.size : Int) := by omega
    have h2 : (0 : Int) ≤ (n : Int) := by omega
    obtain ⟨r, hr⟩ := ih (n + 1) (by omega) (by omega)
    have w : wrap64 ((n : Int) + 1) = ((n + 1 : Nat) : Int) := wrap_succ (by omega)
    obtain ⟨c, hc⟩ : ∃ c, wrap64 (bt s n) = c := ⟨_, rfl⟩
    have j2 : ∀ b : Bool, ∃ r, Ev (fun k => semblanceref02_Is.j2 k s n c b) r := by
      intro b
      by_cases hb : b = true
      · exact ⟨r, Ev.succ (by simp only [semblanceref02_Is.j2, hb, if_true, w]; exact hr)⟩
      · by_cases h0 : (n : Int) = 0
        · exact ⟨_, Ev.succ (by simp only [semblanceref02_Is.j2, hb, h0, if_true, if_false]; exact Ev.now _)⟩
        · by_cases h95 : c = 95
          · exact ⟨r, Ev.succ (by simp only [semblanceref02_Is.j2, hb, h0, h95, if_true, if_false, w]; exact hr)⟩
          · by_cases h48 : c < 48
            · exact ⟨_, Ev.succ (by simp only [semblanceref02_Is.j2, hb, h0, h95, h48, if_true, if_false]; exact Ev.now _)⟩
            · by_cases h57 : c > 57
              · exact ⟨_, Ev.succ (by simp only [semblanceref02_Is.j2, hb, h0, h95, h48, h57, if_true, if_false]; exact Ev.now _)⟩
              · exact ⟨r, Ev.succ (by simp only [semblanceref02_Is.j2, hb, h0, h95, h48, h57, if_true, if_false, w]; exact hr)⟩
    by_cases h97 : c ≥ 97
    · obtain ⟨q, hq⟩ := j2 (decide (c ≤ 122))
      exact ⟨q, Ev.succ (by simp only [semblanceref02_Is.l0, h1, h2, hc, h97, if_true]; exact hq)⟩
    · obtain ⟨q, hq⟩ := j2 false
      exact ⟨q, Ev.succ (by simp only [semblanceref02_Is.l0, h1, h2, hc, h97, if_true, if_false]; exact hq)⟩
/-- a name is at most 12 bytes long -/
theorem is_any (s : ByteArray) : ∃ b, Ev (fun k => semblanceref02_Is.f k s) b ∧ (b = true → s.size ≤ 12) := by
  by_cases h0 : (s.size : Int) < 1
  · exact ⟨false, by simp only [semblanceref02_Is.f, h0, if_true]; exact Ev.succ (by simp only [semblanceref02_Is.j0, if_true]; exact Ev.now _), fun h => by cases h⟩
  · by_cases h1 : (s.size : Int) > 12
    · exact ⟨false, by simp only [semblanceref02_Is.f, h0, h1, if_true, if_false]; exact Ev.succ (by simp only [semblanceref02_Is.j0, if_true]; exact Ev.now _), fun h => by cases h⟩
    · obtain ⟨l, hl, hl2⟩ : ∃ l, semblanceref02_Keywords.f = some l ∧ l.length ≤ 1000 := ⟨_, rfl, by decide⟩
      obtain ⟨r, hr⟩ := place_any l s hl2
      obtain ⟨b, hb⟩ := is_loop s (by omega) _ 0 rfl (Nat.zero_le _)
      by_cases hp : decide (r ≥ 0) = true
      · exact ⟨false, by simp only [semblanceref02_Is.f, h0, h1, if_false, hl, Option.bind_some]; exact Ev.bind hr (Ev.succ (by simp only [semblanceref02_Is.j0, hp, if_true]; exact Ev.now _)), fun h => by cases h⟩
      · exact ⟨b, by simp only [semblanceref02_Is.f, h0, h1, if_false, hl, Option.bind_some]; exact Ev.bind hr (Ev.succ (by simp only [semblanceref02_Is.j0, hp, if_false]; exact hb)), fun _ => by omega⟩
theorem tmay_any (op a : Int) (s : ByteArray) : ∃ b, Ev (fun k => semblanceref05_May.f k op a s) b := by
  have j0 : ∀ b : Bool, ∃ r, Ev (fun k => semblanceref05_May.j0 k b op a s) r := by
    intro b
    by_cases hb : b = true
    · exact ⟨_, Ev.succ (by simp only [semblanceref05_May.j0, hb, if_true]; exact Ev.now _)⟩
    · obtain ⟨q, hq, _⟩ := is_any s
      by_cases h2 : op = 2
      · exact ⟨_, Ev.succ (by simp only [semblanceref05_May.j0, hb, h2, if_true, if_false]; exact Ev.bind hq (Ev.now _))⟩
      · by_cases h11 : op = 11
        · exact ⟨_, Ev.succ (by simp only [semblanceref05_May.j0, hb, h2, h11, if_true, if_false]; exact Ev.bind hq (Ev.now _))⟩
        · exact ⟨_, Ev.succ (by simp only [semblanceref05_May.j0, hb, h2, h11, if_false]; exact Ev.now _)⟩
  have hx : ∃ b : Bool, ∀ k, semblanceref05_May.f k op a s = semblanceref05_May.j0 k b op a s := by
    unfold semblanceref05_May.f
    by_cases c1 : op < 1
    · exact ⟨true, fun k => by rw [if_pos c1]⟩
    · by_cases c2 : op > 20
      · exact ⟨true, fun k => by rw [if_neg c1, if_pos c2]⟩
      · by_cases c3 : op = 1
        · by_cases c4 : a < 0
          · exact ⟨true, fun k => by rw [if_neg c1, if_neg c2, if_pos c3, if_pos c4]⟩
          · exact ⟨_, fun k => by rw [if_neg c1, if_neg c2, if_pos c3, if_neg c4]⟩
        · by_cases c5 : a = 0
          · by_cases c4 : a < 0
            · exact ⟨true, fun k => by rw [if_neg c1, if_neg c2, if_neg c3, if_pos c5, if_pos c4]⟩
            · exact ⟨_, fun k => by rw [if_neg c1, if_neg c2, if_neg c3, if_pos c5, if_neg c4]⟩
          · exact ⟨true, fun k => by rw [if_neg c1, if_neg c2, if_neg c3, if_neg c5]⟩
  obtain ⟨b, hb⟩ := hx
  obtain ⟨r, hr⟩ := j0 b
  exact ⟨r, by simp only [hb]; exact hr⟩
/-- an expression that stands right is whole -/
def WholeT (l : List (S47)) : Prop := l.length ≤ 40 ∧ E (aOf l) l.length 0 = some l.length
theorem tcheck_any (l : List (S47)) : ∃ c, Ev (fun k => semblanceref05_Check.f k l) c ∧ (c = 0 → WholeT l) := by
  by_cases h40 : (l.length : Int) > 40
  · exact ⟨8, by simp only [semblanceref05_Check.f, h40, if_true]; exact Ev.now _, fun h => absurd h (by decide)⟩
  · by_cases hw : E (aOf l) l.length 0 = some l.length
    · have hW : WholeT l := ⟨by omega, hw⟩
      have hd : decide (l.length ≤ 40 ∧ E (aOf l) l.length 0 = some l.length) = true := decide_eq_true hW
      have loop : ∀ (d n : Nat), l.length - n = d → n ≤ l.length → ∃ c, Ev (fun k => semblanceref05_Check.l0 k l n) c := by
        intro d
        induction d with
        | zero =>
          intro n hd hn
          have h1 : ¬ ((n : Int) < (l.length : Int)) := by omega
          have hv := depth_ref l hW.1 hw _ 0 (Nat.le_refl _) (by have := E_lt hw; omega)
          by_cases h : vI l MKd 0 > 12
          · exact ⟨_, Ev.succ (by simp only [semblanceref05_Check.l0, h1, if_false]; exact Ev.bind hv (by simp only [h, if_true]; exact Ev.now _))⟩
          · exact ⟨_, Ev.succ (by simp only [semblanceref05_Check.l0, h1, if_false]; exact Ev.bind hv (by simp only [h, if_false]; exact Ev.now _))⟩
        | succ d ih =>
          intro n hd hn
          have h1 : (n : Int) < (l.length : Int) := by omega
          have h2 : (0 : Int) ≤ (n : Int) := by omega
          obtain ⟨t, ht⟩ := tmay_any (rd_T47 l (n : Int)).f0 (rd_T47 l (n : Int)).f1 (rd_T47 l (n : Int)).f2
          by_cases h : t = true
          · obtain ⟨c, hc⟩ := ih (n + 1) (by omega) (by omega)
            exact ⟨c, Ev.succ (by simp only [semblanceref05_Check.l0, h1, h2, if_true]; exact Ev.bind ht (by simp only [h, if_true, wrap_succ (show n < 9223372036854775807 by omega)]; exact hc))⟩
          · exact ⟨_, Ev.succ (by simp only [semblanceref05_Check.l0, h1, h2, if_true]; exact Ev.bind ht (by simp only [h, if_false]; exact Ev.now _))⟩
      obtain ⟨c, hc⟩ := loop _ 0 rfl (Nat.zero_le _)
      exact ⟨c, by simp only [semblanceref05_Check.f, h40, if_false]; exact Ev.bind (whole_ref l) (by simp only [hd, if_true]; exact hc), fun _ => hW⟩
    · have hd : ¬ (decide (l.length ≤ 40 ∧ E (aOf l) l.length 0 = some l.length) = true) := fun h => hw (of_decide_eq_true h).2
      exact ⟨1, by simp only [semblanceref05_Check.f, h40, if_false]; exact Ev.bind (whole_ref l) (by simp only [hd, if_false]; exact Ev.now _), fun h => absurd h (by decide)⟩
/-- both find the type of a whole expression -/
theorem type_both (l : List (S47)) (h : WholeT l) : ∃ t, Ev (fun k => term_Type.f k l) t ∧ Ev (fun k => semblanceref05_Type.f k l 0) t :=
  ⟨vI l MKt 0, Ev.eq (fold_prog l mk_type) (if_pos h), type_ref l h.1 h.2 _ 0 (Nat.le_refl _) (by have := E_lt h.2; omega)⟩

end Go.Proofs.Ytoeioigpkfgppaa.XR
