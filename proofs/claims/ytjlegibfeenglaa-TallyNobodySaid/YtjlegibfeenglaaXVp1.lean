-- written by wip/xprint.py out of the translation
import Derived.Test.YtjlegibfeenglaaXVp0
namespace Go.Proofs.Ytjlegibfeenglaa.XV
open Go.RowKit Go.Proofs.YtjlegibfeenglaaW.PrintWords Go.Proofs.YtjlegibfeenglaaW.PrintLast Go.Proofs.YtjlegibfeenglaaW.PrintMore
attribute [local go_sem] max2_int min2_int max_two min_two max_three min_three max_four min_four   -- for this text's walks alone
set_option linter.unusedVariables false
set_option linter.unusedSimpArgs false

/-! ### tally_New: function 18 -/
theorem tally.addL (a : Addr) (x y : Int) (w : World) (hc : w.cell? a = some (.int .u64 x)) (hz : w.frozen? a = false) :
    Calls Try.prog 60 #[.pointer (some a), .int .u64 y] w fun e w' => e = .returned (.int .u64 (Go.Proofs.Ytjlegibfeenglaa.XTallyPlain.sum x y)) ∧ w.setCell a (.int .u64 (Go.Proofs.Ytjlegibfeenglaa.XTallyPlain.sum x y)) = w' := by
  have hadd := run_call_add (P := Try.prog) Try.func88 (by kernel_rfl) (by kernel_rfl) (by kernel_rfl) .u64 (by kernel_rfl) (x := x) (y := y) (s := Go.Proofs.Ytjlegibfeenglaa.XTallyPlain.sum x y) hc hz (by unfold Go.Proofs.Ytjlegibfeenglaa.XTallyPlain.sum; simp [go_sem])
  generalize Go.Proofs.Ytjlegibfeenglaa.XTallyPlain.sum x y = s at *
  go_enter Try.func60, Try.ntmps60
  go_wp2
  go_ret
  exact ⟨rfl, rfl⟩
theorem tally.loadL (a : Addr) (x : Int) (w : World) (hc : w.cell? a = some (.int .u64 x)) :
    Calls Try.prog 62 #[.pointer (some a)] w fun e w' => e = .returned (.int .u64 x) ∧ w = w' := by
  have hl := run_call_load (P := Try.prog) Try.func90 (by kernel_rfl) (by kernel_rfl) (by kernel_rfl) .u64 (by kernel_rfl) hc
  go_enter Try.func62, Try.ntmps62
  go_wp2
  go_ret
  exact ⟨rfl, rfl⟩
theorem tally.run_swap {P : Program} {f : FuncId} {fn : Func} (hf : P.funcs[f]? = some fn) (hname : (fn.name == "runtime.NumGoroutine") = false) (hb : fn.body.isNone = true) (hn : Extern.findNext fn = none) (k : IntKind)
    (he : Extern.find fn = some (Extern.Atomic.swapT (.int k))) {a : Addr} {x y : Int} {w : World} (hc : w.cell? a = some (.int k x)) (hz : w.frozen? a = false) :
    (callFunc f #[.pointer (some a), .int k y]).run P w = .ok (.value (.int k x)) (w.setCell a (.int k y)) := by
  rw [run_callFunc_extern hf hname hb hn he]
  change (Sem.run P (do
    let a' ← asAddr (.pointer (some a))
    let old ← Extern.Atomic.read (.int k) a'
    store a' (.int k y) .atomic
    pure old) w).andThen _ = _
  simp [Extern.Atomic.read, asAddr, hc, hz, run_store P w a (.int k y) .atomic rfl, Result.andThen]
theorem tally.swapL (a : Addr) (x y : Int) (w : World) (hc : w.cell? a = some (.int .u64 x)) (hz : w.frozen? a = false) :
    Calls Try.prog 61 #[.pointer (some a), .int .u64 y] w fun e w' => e = .returned (.int .u64 x) ∧ w.setCell a (.int .u64 y) = w' := by
  have hl := tally.run_swap (P := Try.prog) Try.func89 (by kernel_rfl) (by kernel_rfl) (by kernel_rfl) .u64 (by kernel_rfl) (y := y) hc hz
  go_enter Try.func61, Try.ntmps61
  go_wp2
  go_ret
  exact ⟨rfl, rfl⟩
theorem tally.casL (a : Addr) (x y : Int) (w : World) (hc : w.cell? a = some (.int .u64 x)) (hz : w.frozen? a = false) :
    Calls Try.prog 63 #[.pointer (some a), .int .u64 x, .int .u64 y] w fun e w' => e = .returned (.bool true) ∧ w.setCell a (.int .u64 y) = w' := by
  have hl := run_call_cas_hit (P := Try.prog) Try.func91 (by kernel_rfl) (by kernel_rfl) (by kernel_rfl) .u64 (by kernel_rfl) (y := y) hc hz
  go_enter Try.func63, Try.ntmps63
  go_wp2
  go_ret
  exact ⟨rfl, rfl⟩
/-- a tally as it lies: its own block, and the row of its cells -/
structure tally.Is (W : World) (p g : Nat) (xs : List Int) : Prop where
  head : W.heap[p]? = some (.cells #[.slice (some ⟨g, 0, none⟩) xs.length xs.length] 53 (0, 0))
  row : W.heap[g]? = some (.cells (nums .u64 xs).toArray 92 (0, 0))
  pos : 1 ≤ xs.length
  most : xs.length ≤ 64
theorem tally.Is.cell {W : World} {p g : Nat} {xs : List Int} (h : tally.Is W p g xs) : W.cell? ⟨p, 0, none⟩ = some (.slice (some ⟨g, 0, none⟩) xs.length xs.length) := by
  simp [World.cell?, h.head]
theorem tally.Is.at_ {W : World} {p g : Nat} {xs : List Int} (h : tally.Is W p g xs) {i : Nat} (hi : i < xs.length) : W.cell? ⟨g, i, none⟩ = some (.int .u64 (rd xs (i : Int))) ∧ W.frozen? ⟨g, i, none⟩ = false := by
  constructor
  · simp [World.cell?, h.row, nums, rd, hi]
  · simp [World.frozen?, h.row]
theorem tally.Is.ne {W : World} {p g : Nat} {xs : List Int} (h : tally.Is W p g xs) : p ≠ g := by
  rintro rfl
  have h1 := h.head
  rw [h.row] at h1
  injection h1 with h1
  injection h1 with _ h2
  exact absurd h2 (by decide)
theorem tally.apart {W : World} {p g p2 g2 : Nat} {xs ys : List Int} (h : tally.Is W p g xs) (h' : tally.Is W p2 g2 ys) : p ≠ g2 := by
  rintro rfl
  have h1 := h.head
  rw [h'.row] at h1
  injection h1 with h1
  injection h1 with _ h2
  exact absurd h2 (by decide)
theorem tally.Is.lt {W : World} {p g : Nat} {xs : List Int} (h : tally.Is W p g xs) : p < W.heap.size ∧ g < W.heap.size := ⟨lt_of_block h.head, lt_of_block h.row⟩
theorem tally.Is.move {W W1 : World} {p g : Nat} {xs : List Int} (h : tally.Is W p g xs) (h1 : W1.heap[p]? = W.heap[p]?) (h2 : W1.heap[g]? = W.heap[g]?) : tally.Is W1 p g xs :=
  ⟨h1.trans h.head, h2.trans h.row, h.pos, h.most⟩
theorem tally.Is.below {W W1 : World} {p g : Nat} {xs : List Int} (h : tally.Is W p g xs) (hb : Below W.heap.size W W1) : tally.Is W1 p g xs := h.move (hb.block p h.lt.1) (hb.block g h.lt.2)
theorem tally.Is.alloc {W : World} {p g : Nat} {xs : List Int} (h : tally.Is W p g xs) (o : Obj) : tally.Is (W.alloc o) p g xs := h.below ((Below.refl _ _).alloc (Nat.le_refl _) o)
theorem tally.Is.set {W : World} {p g : Nat} {xs : List Int} (h : tally.Is W p g xs) (i : Nat) (y : Int) : tally.Is (W.setCell ⟨g, i, none⟩ (.int .u64 y)) p g (xs.set i y) := by
  refine ⟨?_, ?_, by rw [List.length_set]; exact h.pos, by rw [List.length_set]; exact h.most⟩
  · rw [List.length_set, Below.heap_setCell W ⟨g, i, none⟩ _ p h.ne]
    exact h.head
  · have e : (nums .u64 (xs.set i y)).toArray = (nums .u64 xs).toArray.setIfInBounds i (.int .u64 y) := by simp [nums, List.map_set]
    rw [e]
    exact blk_set h.row i _
theorem tally.sizeN (w : World) : Calls Try.prog 19 #[.pointer none] w fun e w' => e = .returned (.int .i64 0) ∧ w = w' := by
  go_enter Try.func19, Try.ntmps19
  go_wp2
  go_ret
  exact ⟨rfl, rfl⟩
theorem tally.sizeL (p n c : Nat) (A : Option Addr) (w : World) (h : w.cell? ⟨p, 0, none⟩ = some (.slice A n c)) : Calls Try.prog 19 #[.pointer (some ⟨p, 0, none⟩)] w fun e w' => e = .returned (.int .i64 n) ∧ w = w' := by
  go_enter Try.func19, Try.ntmps19
  go_wp2
  go_ret
  exact ⟨rfl, rfl⟩
/-- the tally that none is: nil, or one without cells -/
def tally.None (w : World) (v : Value) : Prop := v = .pointer none ∨ ∃ p, v = .pointer (some ⟨p, 0, none⟩) ∧ w.cell? ⟨p, 0, none⟩ = some (.slice none 0 0)
theorem tally.atNone (i : Int) (v : Value) (w : World) (h : tally.None w v) : Calls Try.prog 59 #[v, .int .i64 i] w fun e w' => e = .returned (.tuple #[.pointer none, .int .i64 10]) ∧ w = w' := by
  rcases h with rfl | ⟨p, rfl, hc⟩
  · go_enter Try.func59, Try.ntmps59
    go_wp2_with (go_at_call 19; refine (tally.sizeN _).mono ?_; rintro e w' ⟨rfl, rfl⟩)
    go_ret2
    exact ⟨rfl, rfl⟩
  · go_enter Try.func59, Try.ntmps59
    go_wp2_with (go_at_call 19; refine (tally.sizeL p 0 0 none _ hc).mono ?_; rintro e w' ⟨rfl, rfl⟩)
    go_ret2
    exact ⟨rfl, rfl⟩
theorem tally.atOut (i : Int) (p g : Nat) (xs : List Int) (w : World) (h : tally.Is w p g xs) (hi : ¬ (0 ≤ i ∧ i < xs.length)) :
    Calls Try.prog 59 #[.pointer (some ⟨p, 0, none⟩), .int .i64 i] w fun e w' => e = .returned (.tuple #[.pointer none, .int .i64 7]) ∧ w = w' := by
  have hc := h.cell
  have h1 := h.pos
  have h2 := h.most
  have hz : ((xs.length : Int) == 0) = false := by rw [beq_eq_false_iff_ne]; omega
  clear h
  by_cases hi0 : i < 0
  · have d1 : decide (i < 0) = true := decide_eq_true hi0
    go_enter Try.func59, Try.ntmps59
    go_wp2_with (go_at_call 19; refine (tally.sizeL p _ _ _ _ hc).mono ?_; rintro e w' ⟨rfl, rfl⟩)
    go_ret2
    exact ⟨rfl, rfl⟩
  · have d1 : decide (i < 0) = false := decide_eq_false hi0
    have d2 : decide ((xs.length : Int) ≤ i) = true := decide_eq_true (by omega)
    go_enter Try.func59, Try.ntmps59
    go_wp2_with (go_at_call 19; refine (tally.sizeL p _ _ _ _ hc).mono ?_; rintro e w' ⟨rfl, rfl⟩)
    go_ret2
    exact ⟨rfl, rfl⟩
theorem tally.atIn (i : Int) (p g : Nat) (xs : List Int) (w : World) (h : tally.Is w p g xs) (h0 : 0 ≤ i) (hi : i < xs.length) :
    Calls Try.prog 59 #[.pointer (some ⟨p, 0, none⟩), .int .i64 i] w fun e w' => e = .returned (.tuple #[.pointer (some ⟨g, i.toNat, none⟩), .int .i64 0]) ∧ w = w' := by
  obtain ⟨j, rfl⟩ : ∃ j : Nat, i = j := ⟨i.toNat, by omega⟩
  have hc := h.cell
  have h1 := h.pos
  have h2 := h.most
  have hz : ((xs.length : Int) == 0) = false := by rw [beq_eq_false_iff_ne]; omega
  have d1 : decide ((j : Int) < 0) = false := decide_eq_false (by omega)
  have d2 : decide ((xs.length : Int) ≤ (j : Int)) = false := decide_eq_false (by omega)
  rw [Int.toNat_natCast]
  clear h
  go_enter Try.func59, Try.ntmps59
  go_wp2_with (go_at_call 19; refine (tally.sizeL p _ _ _ _ hc).mono ?_; rintro e w' ⟨rfl, rfl⟩)
  go_ret2
  exact ⟨rfl, rfl⟩
theorem tally.zeros (n : Nat) : madeCells #[.int .u64 0] n = (nums .u64 (List.replicate n 0)).toArray := by
  apply Array.ext
  · simp [nums, size_madeCells]
  · intro i h1 h2
    simp [nums, madeCells, Nat.mod_one]
def tally.NewPost (n : Nat) (w : World) (e : Ending) (w' : World) : Prop := ∃ p g, e = .returned (.tuple #[.pointer (some ⟨p, 0, none⟩), .int .i64 0]) ∧ w.heap.size ≤ p ∧ w.heap.size ≤ g ∧ tally.Is w' p g (List.replicate n 0) ∧ Below w.heap.size w w'
theorem tally.info : (Try.prog.info? 92).map (fun i => (i.zero, i.size, i.bytes)) = some (some (.agg #[.int .u64 0]), 1, 8) := by kernel_rfl
theorem tally.newL (n : Nat) (w : World) (h1 : 1 ≤ n) (h2 : n ≤ 64) : Calls Try.prog 18 #[.int .i64 n] w (tally.NewPost n w) := by
  obtain ⟨i0, hi, hz0, hz1, hz2⟩ := info_parts tally.info
  have hmk : ∀ W : World, (Instr.makeSlice 51 (.int .i64 (n : Int)) (.int .i64 (n : Int))).run Try.prog W = .ok (.slice (some ⟨W.heap.size, 0, none⟩) n n) (W.alloc (.cells (nums .u64 (List.replicate n 0)).toArray 92)) := by
    intro W
    have := run_make (P := Try.prog) W 51 92 i0 _ Try.underlying51 hi hz0 .i64 .i64 n n (by omega) (Int.le_refl _) (by rw [hz2]; omega) (by omega)
    rw [hz1, Nat.mul_one, Int.toNat_natCast] at this
    rw [this]
    show _ = Result.ok _ (W.alloc (.cells _ _))
    rw [← tally.zeros]
    rfl
  clear hi hz0 hz1 hz2
  generalize hZ : (nums .u64 (List.replicate n 0)).toArray = Z at hmk
  have HZ := Aside0.mk hZ
  clear hZ
  have d1 : decide ((n : Int) < 1) = false := decide_eq_false (by omega)
  have d2 : decide ((64 : Int) < (n : Int)) = false := decide_eq_false (by omega)
  go_enter Try.func18, Try.ntmps18
  go_wp2
  go_ret2
  refine ⟨w.heap.size + 1, w.heap.size, rfl, Nat.le_succ _, Nat.le_refl _, ⟨?_, ?_, ?_, ?_⟩, ?_⟩
  · rw [List.length_replicate]
    have := heap_alloc_new (w.alloc (.cells Z 92)) (.cells #[.slice (some ⟨w.heap.size, 0, none⟩) n n] 53 (0, 0))
    rw [World.size_alloc] at this
    exact this
  · rw [HZ.out]
    exact (heap_alloc_old _ _ (by rw [World.size_alloc]; exact Nat.lt_succ_self _)).trans (heap_alloc_new _ _)
  · rw [List.length_replicate]; exact h1
  · rw [List.length_replicate]; exact h2
  · exact below_alloc (below_alloc (Below.refl _ _) _) _
theorem tally.newNo (n : Int) (w : World) (h : ¬ (1 ≤ n ∧ n ≤ 64)) : Calls Try.prog 18 #[.int .i64 n] w fun e w' => e = .returned (.tuple #[.pointer none, .int .i64 1]) ∧ w = w' := by
  by_cases h1 : n < 1
  · have d1 : decide (n < 1) = true := decide_eq_true h1
    go_enter Try.func18, Try.ntmps18
    go_wp2
    go_ret2
    exact ⟨rfl, rfl⟩
  · have d1 : decide (n < 1) = false := decide_eq_false h1
    have d2 : decide (64 < n) = true := decide_eq_true (by omega)
    go_enter Try.func18, Try.ntmps18
    go_wp2
    go_ret2
    exact ⟨rfl, rfl⟩
theorem tally.addNone (i k : Int) (v : Value) (w : World) (h : tally.None w v) : Calls Try.prog 20 #[v, .int .i64 i, .int .u64 k] w fun e w' => e = .returned (.int .i64 10) ∧ w = w' := by
  have H := Aside0.mk h
  clear h
  go_enter Try.func20, Try.ntmps20
  go_wp2_with (go_at_call 59; refine (tally.atNone i _ _ H.out).mono ?_; rintro e w' ⟨rfl, rfl⟩)
  go_ret
  exact ⟨rfl, rfl⟩
theorem tally.addOut (i k : Int) (p g : Nat) (xs : List Int) (w : World) (h : tally.Is w p g xs) (hi : ¬ (0 ≤ i ∧ i < xs.length)) : Calls Try.prog 20 #[.pointer (some ⟨p, 0, none⟩), .int .i64 i, .int .u64 k] w fun e w' => e = .returned (.int .i64 7) ∧ w = w' := by
  have H := Aside0.mk h
  have HI := Aside0.mk hi
  clear h hi
  go_enter Try.func20, Try.ntmps20
  go_wp2_with (go_at_call 59; refine (tally.atOut i p g xs _ H.out HI.out).mono ?_; rintro e w' ⟨rfl, rfl⟩)
  go_ret
  exact ⟨rfl, rfl⟩
theorem tally.addIn (i : Nat) (k : Int) (p g : Nat) (xs : List Int) (w : World) (h : tally.Is w p g xs) (hi : i < xs.length) : Calls Try.prog 20 #[.pointer (some ⟨p, 0, none⟩), .int .i64 (i : Int), .int .u64 k] w fun e w' => e = .returned (.int .i64 0) ∧ w.setCell ⟨g, i, none⟩ (.int .u64 (Go.Proofs.Ytjlegibfeenglaa.XTallyPlain.sum (rd xs (i : Int)) k)) = w' := by
  have H := Aside0.mk h
  have HI := Aside0.mk hi
  obtain ⟨hc, hz⟩ := h.at_ hi
  have HC := Aside0.mk hc
  have HZ := Aside0.mk hz
  clear h hi hc hz
  go_enter Try.func20, Try.ntmps20
  go_wp2_with (first | (go_at_call 59; refine (tally.atIn (i : Int) p g xs _ H.out (by omega) (by have := HI.out; omega)).mono ?_; rw [Int.toNat_natCast]; rintro e w' ⟨rfl, rfl⟩) | (go_at_call 60; refine (tally.addL ⟨g, i, none⟩ (rd xs (i : Int)) k _ HC.out HZ.out).mono ?_; rintro e w' ⟨rfl, rfl⟩))
  go_ret
  exact ⟨rfl, rfl⟩
theorem tally.swapNone (i k : Int) (v : Value) (w : World) (h : tally.None w v) : Calls Try.prog 21 #[v, .int .i64 i, .int .u64 k] w fun e w' => e = .returned (.tuple #[.int .u64 0, .int .i64 10]) ∧ w = w' := by
  have H := Aside0.mk h
  clear h
  go_enter Try.func21, Try.ntmps21
  go_wp2_with (go_at_call 59; refine (tally.atNone i _ _ H.out).mono ?_; rintro e w' ⟨rfl, rfl⟩)
  go_ret2
  exact ⟨rfl, rfl⟩
theorem tally.swapOut (i k : Int) (p g : Nat) (xs : List Int) (w : World) (h : tally.Is w p g xs) (hi : ¬ (0 ≤ i ∧ i < xs.length)) : Calls Try.prog 21 #[.pointer (some ⟨p, 0, none⟩), .int .i64 i, .int .u64 k] w fun e w' => e = .returned (.tuple #[.int .u64 0, .int .i64 7]) ∧ w = w' := by
  have H := Aside0.mk h
  have HI := Aside0.mk hi
  clear h hi
  go_enter Try.func21, Try.ntmps21
  go_wp2_with (go_at_call 59; refine (tally.atOut i p g xs _ H.out HI.out).mono ?_; rintro e w' ⟨rfl, rfl⟩)
  go_ret2
  exact ⟨rfl, rfl⟩
theorem tally.swapIn (i : Nat) (k : Int) (p g : Nat) (xs : List Int) (w : World) (h : tally.Is w p g xs) (hi : i < xs.length) : Calls Try.prog 21 #[.pointer (some ⟨p, 0, none⟩), .int .i64 (i : Int), .int .u64 k] w fun e w' => e = .returned (.tuple #[.int .u64 (rd xs (i : Int)), .int .i64 0]) ∧ w.setCell ⟨g, i, none⟩ (.int .u64 k) = w' := by
  have H := Aside0.mk h
  have HI := Aside0.mk hi
  obtain ⟨hc, hz⟩ := h.at_ hi
  have HC := Aside0.mk hc
  have HZ := Aside0.mk hz
  clear h hi hc hz
  go_enter Try.func21, Try.ntmps21
  go_wp2_with (first | (go_at_call 59; refine (tally.atIn (i : Int) p g xs _ H.out (by omega) (by have := HI.out; omega)).mono ?_; rw [Int.toNat_natCast]; rintro e w' ⟨rfl, rfl⟩) | (go_at_call 61; refine (tally.swapL ⟨g, i, none⟩ (rd xs (i : Int)) k _ HC.out HZ.out).mono ?_; rintro e w' ⟨rfl, rfl⟩))
  go_ret2
  exact ⟨rfl, rfl⟩
theorem tally.raiseNone (i k : Int) (v : Value) (w : World) (h : tally.None w v) : Calls Try.prog 22 #[v, .int .i64 i, .int .u64 k] w fun e w' => e = .returned (.tuple #[.bool false, .int .i64 10]) ∧ w = w' := by
  have H := Aside0.mk h
  clear h
  go_enter Try.func22, Try.ntmps22
  go_wp2_with (go_at_call 59; refine (tally.atNone i _ _ H.out).mono ?_; rintro e w' ⟨rfl, rfl⟩)
  go_ret2
  exact ⟨rfl, rfl⟩
theorem tally.raiseOut (i k : Int) (p g : Nat) (xs : List Int) (w : World) (h : tally.Is w p g xs) (hi : ¬ (0 ≤ i ∧ i < xs.length)) : Calls Try.prog 22 #[.pointer (some ⟨p, 0, none⟩), .int .i64 i, .int .u64 k] w fun e w' => e = .returned (.tuple #[.bool false, .int .i64 7]) ∧ w = w' := by
  have H := Aside0.mk h
  have HI := Aside0.mk hi
  clear h hi
  go_enter Try.func22, Try.ntmps22
  go_wp2_with (go_at_call 59; refine (tally.atOut i p g xs _ H.out HI.out).mono ?_; rintro e w' ⟨rfl, rfl⟩)
  go_ret2
  exact ⟨rfl, rfl⟩
theorem tally.raiseUp (i : Nat) (k : Int) (p g : Nat) (xs : List Int) (w : World) (h : tally.Is w p g xs) (hi : i < xs.length) (hk : rd xs (i : Int) < k) : Calls Try.prog 22 #[.pointer (some ⟨p, 0, none⟩), .int .i64 (i : Int), .int .u64 k] w fun e w' => e = .returned (.tuple #[.bool true, .int .i64 0]) ∧ w.setCell ⟨g, i, none⟩ (.int .u64 k) = w' := by
  have H := Aside0.mk h
  have HI := Aside0.mk hi
  obtain ⟨hc, hz⟩ := h.at_ hi
  have HC := Aside0.mk hc
  have HZ := Aside0.mk hz
  have d1 : decide (rd xs (i : Int) < k) = true := decide_eq_true hk
  clear h hi hc hz
  go_enter Try.func22, Try.ntmps22
  go_wp2_with (first | (go_at_call 59; refine (tally.atIn (i : Int) p g xs _ H.out (by omega) (by have := HI.out; omega)).mono ?_; rw [Int.toNat_natCast]; rintro e w' ⟨rfl, rfl⟩) | (go_at_call 62; refine (tally.loadL ⟨g, i, none⟩ (rd xs (i : Int)) _ HC.out).mono ?_; rintro e w' ⟨rfl, rfl⟩) | (go_at_call 63; refine (tally.casL ⟨g, i, none⟩ (rd xs (i : Int)) k _ HC.out HZ.out).mono ?_; rintro e w' ⟨rfl, rfl⟩))
  go_ret2
  exact ⟨rfl, rfl⟩
theorem tally.raiseNo (i : Nat) (k : Int) (p g : Nat) (xs : List Int) (w : World) (h : tally.Is w p g xs) (hi : i < xs.length) (hk : ¬ rd xs (i : Int) < k) : Calls Try.prog 22 #[.pointer (some ⟨p, 0, none⟩), .int .i64 (i : Int), .int .u64 k] w fun e w' => e = .returned (.tuple #[.bool false, .int .i64 0]) ∧ w = w' := by
  have H := Aside0.mk h
  have HI := Aside0.mk hi
  obtain ⟨hc, hz⟩ := h.at_ hi
  have HC := Aside0.mk hc
  have d1 : decide (rd xs (i : Int) < k) = false := decide_eq_false hk
  clear h hi hc hz
  go_enter Try.func22, Try.ntmps22
  go_wp2_with (first | (go_at_call 59; refine (tally.atIn (i : Int) p g xs _ H.out (by omega) (by have := HI.out; omega)).mono ?_; rw [Int.toNat_natCast]; rintro e w' ⟨rfl, rfl⟩) | (go_at_call 62; refine (tally.loadL ⟨g, i, none⟩ (rd xs (i : Int)) _ HC.out).mono ?_; rintro e w' ⟨rfl, rfl⟩))
  go_ret2
  exact ⟨rfl, rfl⟩
theorem tally.getNone (i : Int) (v : Value) (w : World) (h : tally.None w v) : Calls Try.prog 23 #[v, .int .i64 i] w fun e w' => e = .returned (.int .u64 0) ∧ w = w' := by
  have H := Aside0.mk h
  clear h
  go_enter Try.func23, Try.ntmps23
  go_wp2_with (go_at_call 59; refine (tally.atNone i _ _ H.out).mono ?_; rintro e w' ⟨rfl, rfl⟩)
  go_ret
  exact ⟨rfl, rfl⟩
theorem tally.getOut (i : Int) (p g : Nat) (xs : List Int) (w : World) (h : tally.Is w p g xs) (hi : ¬ (0 ≤ i ∧ i < xs.length)) : Calls Try.prog 23 #[.pointer (some ⟨p, 0, none⟩), .int .i64 i] w fun e w' => e = .returned (.int .u64 0) ∧ w = w' := by
  have H := Aside0.mk h
  have HI := Aside0.mk hi
  clear h hi
  go_enter Try.func23, Try.ntmps23
  go_wp2_with (go_at_call 59; refine (tally.atOut i p g xs _ H.out HI.out).mono ?_; rintro e w' ⟨rfl, rfl⟩)
  go_ret
  exact ⟨rfl, rfl⟩
theorem tally.getIn (i : Nat) (p g : Nat) (xs : List Int) (w : World) (h : tally.Is w p g xs) (hi : i < xs.length) : Calls Try.prog 23 #[.pointer (some ⟨p, 0, none⟩), .int .i64 (i : Int)] w fun e w' => e = .returned (.int .u64 (rd xs (i : Int))) ∧ w = w' := by
  have H := Aside0.mk h
  have HI := Aside0.mk hi
  obtain ⟨hc, hz⟩ := h.at_ hi
  have HC := Aside0.mk hc
  clear h hi hc hz
  go_enter Try.func23, Try.ntmps23
  go_wp2_with (first | (go_at_call 59; refine (tally.atIn (i : Int) p g xs _ H.out (by omega) (by have := HI.out; omega)).mono ?_; rw [Int.toNat_natCast]; rintro e w' ⟨rfl, rfl⟩) | (go_at_call 62; refine (tally.loadL ⟨g, i, none⟩ (rd xs (i : Int)) _ HC.out).mono ?_; rintro e w' ⟨rfl, rfl⟩))
  go_ret
  exact ⟨rfl, rfl⟩
theorem tally.allNone (v : Value) (w : World) (h : tally.None w v) : Calls Try.prog 25 #[v] w fun e w' => e = .returned (.slice none 0 0) ∧ w = w' := by
  rcases h with rfl | ⟨p, rfl, hc⟩
  · go_enter Try.func25, Try.ntmps25
    go_wp2_with (go_at_call 19; refine (tally.sizeN _).mono ?_; rintro e w' ⟨rfl, rfl⟩)
    refine wp_loop_rounds 1 ?_
    rw [rounds_succ]
    go_wp2
    go_ret
    exact ⟨rfl, rfl⟩
  · go_enter Try.func25, Try.ntmps25
    go_wp2_with (go_at_call 19; refine (tally.sizeL p 0 0 none _ hc).mono ?_; rintro e w' ⟨rfl, rfl⟩)
    refine wp_loop_rounds 1 ?_
    rw [rounds_succ]
    go_wp2
    go_ret
    exact ⟨rfl, rfl⟩
theorem tally.info8 : (Try.prog.info? 36).map (fun i => (i.zero, i.size, i.bytes)) = some (some (.int .u64 0), 1, 8) := by kernel_rfl
set_option maxHeartbeats 2000000 in
set_option maxRecDepth 100000 in
theorem tally.allL (p g : Nat) (xs : List Int) (w : World) (h : tally.Is w p g xs) : Calls Try.prog 25 #[.pointer (some ⟨p, 0, none⟩)] w fun e w' => ∃ v0_ : Value, e = .returned v0_ ∧ Kd.R (Kd.int .u64) 36 w' w.heap.size (fun _ => True) v0_ xs ∧ Below w.heap.size w w' := by
  have H := Aside0.mk h
  have hc := h.cell
  have hl := h.most
  clear h
  go_enter Try.func25, Try.ntmps25
  go_wp2_with (go_at_call 19; refine (tally.sizeL p _ _ _ _ hc).mono ?_; rintro e w' ⟨rfl, rfl⟩)
  clear hc
  go_loopg [3, 7] xs.length (fun kq v3' v7 wr' => ∃ (v3 : Value) (wr : World) (i : Nat), v3 = v3' ∧ wr = wr' ∧ Aside0 (xs.length - i = kq) ∧ Aside0 (i ≤ xs.length) ∧ v7 = .int .i64 (i : Int) ∧ Aside0 (Kd.R (Kd.int .u64) 36 wr w.heap.size (fun _ => True) v3 (xs.take i)) ∧ Aside0 (Below w.heap.size w wr))
  case atStart => exact ⟨_, _, 0, rfl, rfl, ⟨rfl⟩, ⟨Nat.zero_le _⟩, rfl, ⟨Kd.R_nil _ _ _ _ _⟩, ⟨Below.refl _ _⟩⟩
  case round =>
    obtain ⟨v3, wr, i, rfl, rfl, HK, HI, rfl, HO, HB⟩ := hrel
    by_cases hi : i < xs.length
    · have hlt : decide ((i : Int) < (xs.length : Int)) = true := decide_eq_true (by omega)
      have hIs := H.out.below HB.out
      have hc := hIs.cell
      obtain ⟨hx, -⟩ := hIs.at_ hi
      have HX := Aside0.mk hx
      have hts : xs.take (i + 1) = xs.take i ++ [rd xs (i : Int)] := by
        rw [List.take_succ_eq_append_getElem hi]
        simp [rd, hi]
      have HTS := Aside0.mk hts
      have hll : (xs.take i).length ≤ 64 := by rw [List.length_take]; omega
      generalize rd xs (i : Int) = x at *
      generalize xs.take i = ys at *
      obtain ⟨A3, c3, e3⟩ := Kd.R_slice HO.out
      subst e3
      have hi1 : (i : Int) < (xs.length : Int) := by omega
      clear hIs hx hts
      go_wp2_with (first | (go_at_call 62; refine (tally.loadL ⟨g, i, none⟩ x _ HX.out).mono ?_; rintro e w' ⟨rfl, rfl⟩) | ((with_reducible refine gate_builtin (b := .append) (xs := #[.tmp 10, .tmp 18]) rfl ?_); at_builtin; refine Kd.R_append (Kd.int .u64) (w0 := w) w.heap.size rfl (.tmp 10) (.tmp 18) 35 36 (.int .u64 0) 8 rfl Try.underlying35 tally.info8 rfl (by decide) (by omega) (.slice A3 ys.length c3) ys x [.int .u64 x] (fun _ => True) (fun _ => False) rfl rfl ?aP (fun _ hk => hk.elim) ?aF ?aO ?aB ?aS ?aL ?aK))
      case aP => exact rfl
      case aF => exact fun _ _ => trivial
      case aO => exact HO.out
      case aB => exact HB.out
      case aS => exact HB.out.size
      case aL => omega
      case aK =>
        intro v1 w3 ho hb hg hat
        rw [← HTS.out] at ho
        have HO3 := Aside0.mk ho
        have HB3 := Aside0.mk hb
        clear ho hb hg hat hc
        go_wp2
        go_roundg (xs.length - (i + 1))
        case measure => have := HK.out; omega
        case rel => exact ⟨_, _, i + 1, rfl, rfl, ⟨rfl⟩, ⟨hi⟩, by go_num, HO3, HB3⟩
    · have hlt : decide ((i : Int) < (xs.length : Int)) = false := decide_eq_false (by omega)
      have hil : i = xs.length := by have := HI.out; omega
      rw [hil, List.take_length] at HO
      clear hil
      go_wp2_with fail
      go_ret
      exact ⟨_, rfl, HO.out, HB.out⟩
theorem tally.totalNone (v : Value) (w : World) (h : tally.None w v) : Calls Try.prog 26 #[v] w fun e w' => e = .returned (.int .u64 0) ∧ w = w' := by
  have H := Aside0.mk h
  clear h
  go_enter Try.func26, Try.ntmps26
  go_wp2_with (go_at_call 25; refine (tally.allNone _ _ H.out).mono ?_; rintro e w' ⟨rfl, rfl⟩)
  refine wp_loop_rounds 1 ?_
  rw [rounds_succ]
  go_wp2
  go_ret
  exact ⟨rfl, rfl⟩
set_option maxHeartbeats 2000000 in
set_option maxRecDepth 100000 in
theorem tally.totalL (p g : Nat) (xs : List Int) (w : World) (h : tally.Is w p g xs) : Calls Try.prog 26 #[.pointer (some ⟨p, 0, none⟩)] w fun e w' => e = .returned (.int .u64 (Go.Proofs.Ytjlegibfeenglaa.XTallyPlain.total xs)) ∧ Below w.heap.size w w' := by
  have H := Aside0.mk h
  have hl := h.most
  clear h
  go_enter Try.func26, Try.ntmps26
  go_wp2_with (go_at_call 25; refine (tally.allL p g xs _ H.out).mono ?_; rintro e w1 ⟨vb, rfl, hrow, hb⟩; obtain ⟨Ab, cb, rfl, hlb, hCb⟩ := Kd.R_reads hrow; have HC := Aside0.mk hCb; have HB := Aside0.mk hb; clear hrow hb hCb)
  go_loopg [3, 9] xs.length (fun kq v3 v9 wr' => ∃ (wr : World) (i : Nat), wr = wr' ∧ w1 = wr ∧ Aside0 (xs.length - i = kq) ∧ Aside0 (i ≤ xs.length) ∧ v9 = .int .i64 (i : Int) ∧ v3 = .int .u64 (Go.Proofs.Ytjlegibfeenglaa.XTallyPlain.total (xs.take i)))
  case atStart => exact ⟨_, 0, rfl, rfl, ⟨rfl⟩, ⟨Nat.zero_le _⟩, rfl, rfl⟩
  case round =>
    obtain ⟨wr, i, rfl, rfl, HK, HI, rfl, rfl⟩ := hrel
    by_cases hi : i < xs.length
    · have hlt : decide ((i : Int) < (xs.length : Int)) = true := decide_eq_true (by omega)
      obtain ⟨ad, e1, hx0⟩ := Kd.at_int HC.out (i : Int) (by omega) (by omega)
      subst e1
      rw [Int.toNat_natCast] at hx0
      have hts : Go.Proofs.Ytjlegibfeenglaa.XTallyPlain.total (xs.take (i + 1)) = IntKind.u64.wrap (Go.Proofs.Ytjlegibfeenglaa.XTallyPlain.total (xs.take i) + rd xs (i : Int)) := by
        rw [List.take_succ_eq_append_getElem hi, Go.Proofs.Ytjlegibfeenglaa.XTallyPlain.total, List.foldl_append]
        have hrd : rd xs (i : Int) = xs[i] := by simp [rd, hi]
        rw [hrd]
        rfl
      have HTS := Aside0.mk hts
      generalize rd xs (i : Int) = x at *
      generalize Go.Proofs.Ytjlegibfeenglaa.XTallyPlain.total (xs.take i) = s at *
      have hi1 : (i : Int) < (xs.length : Int) := by omega
      clear hts
      go_wp2_with fail
      go_roundg (xs.length - (i + 1))
      case measure => have := HK.out; omega
      case rel => exact ⟨_, i + 1, rfl, rfl, ⟨rfl⟩, ⟨hi⟩, by go_num, by rw [HTS.out]⟩
    · have hlt : decide ((i : Int) < (xs.length : Int)) = false := decide_eq_false (by omega)
      have hil : i = xs.length := by have := HI.out; omega
      have HT : Aside0 (Go.Proofs.Ytjlegibfeenglaa.XTallyPlain.total (xs.take i) = Go.Proofs.Ytjlegibfeenglaa.XTallyPlain.total xs) := ⟨by rw [hil, List.take_length]⟩
      clear hil
      go_wp2_with fail
      go_ret
      exact ⟨by rw [HT.out]; rfl, HB.out⟩


/-! ### semblancelaw55_awake: function 17 -/
-- USES semblance/tally.New
def semblancelaw55_awake.f : Option Bool := some true
set_option maxHeartbeats 2000000 in
set_option maxRecDepth 100000 in
theorem semblancelaw55_awake.calls (r : Bool) (w : World) (h : semblancelaw55_awake.f = some r) :
    Calls Try.prog 17 #[] w fun e w' => e = .returned (.bool r) ∧ Below w.heap.size w w' := by
  obtain rfl : true = r := Option.some.inj h
  clear h
  go_enter Try.func17, Try.ntmps17
  go_wp2_with fail
  refine (tally.newL 2 _ (by omega) (by omega)).mono ?_
  rintro e w1 ⟨p, g, rfl, hp, hg, his, hb⟩
  have HB := Aside0.mk hb
  have HP := Aside0.mk hp
  have HG := Aside0.mk hg
  have H1 : Aside0 (tally.Is w1 p g [0, 0]) := ⟨his⟩
  clear hb hp hg his
  go_wp2_with fail
  refine (tally.addIn 0 3 p g [0, 0] _ H1.out (by decide)).mono ?_
  rintro e w2 ⟨rfl, hw2⟩
  have H2 : Aside0 (tally.Is w2 p g [3, 0]) := ⟨hw2 ▸ H1.out.set 0 _⟩
  have HB2 : Aside0 (Below w.heap.size w w2) := ⟨hw2 ▸ HB.out.setCell (p := ⟨g, 0, none⟩) HG.out _⟩
  clear hw2 H1 HB
  go_wp2_with fail
  refine (tally.addIn 0 4 p g [3, 0] _ H2.out (by decide)).mono ?_
  rintro e w3 ⟨rfl, hw3⟩
  have H3 : Aside0 (tally.Is w3 p g [7, 0]) := ⟨hw3 ▸ H2.out.set 0 _⟩
  have HB3 : Aside0 (Below w.heap.size w w3) := ⟨hw3 ▸ HB2.out.setCell (p := ⟨g, 0, none⟩) HG.out _⟩
  clear hw3 H2 HB2
  go_wp2_with fail
  refine (tally.addOut 2 1 p g [7, 0] _ H3.out (by decide)).mono ?_
  rintro e w4 ⟨rfl, rfl⟩
  go_wp2_with fail
  refine (tally.swapIn 1 9 p g [7, 0] _ H3.out (by decide)).mono ?_
  rintro e w5 ⟨rfl, hw5⟩
  have H5 : Aside0 (tally.Is w5 p g [7, 9]) := ⟨hw5 ▸ H3.out.set 1 _⟩
  have HB5 : Aside0 (Below w.heap.size w w5) := ⟨hw5 ▸ HB3.out.setCell (p := ⟨g, 1, none⟩) HG.out _⟩
  have e0 : rd [7, 0] ((1 : Nat) : Int) = 0 := by decide
  rw [e0]
  clear hw5 H3 HB3 e0
  go_wp2_with fail
  refine (tally.raiseNo 1 9 p g [7, 9] _ H5.out (by decide) (by decide)).mono ?_
  rintro e w6 ⟨rfl, rfl⟩
  go_wp2_with fail
  refine (tally.getIn 0 p g [7, 9] _ H5.out (by decide)).mono ?_
  rintro e w7 ⟨rfl, rfl⟩
  have e7 : rd [7, 9] ((0 : Nat) : Int) = 7 := by decide
  rw [e7]
  clear e7
  go_wp2_with fail
  refine (tally.totalL p g [7, 9] _ H5.out).mono ?_
  rintro e w8 ⟨rfl, hb8⟩
  have e8 : Go.Proofs.Ytjlegibfeenglaa.XTallyPlain.total [7, 9] = 16 := by decide
  rw [e8]
  have H8 : Aside0 (tally.Is w8 p g [7, 9]) := ⟨H5.out.below hb8⟩
  have HB8 : Aside0 (Below w.heap.size w w8) := ⟨below_then HB5.out HB5.out.size hb8⟩
  clear hb8 H5 HB5 e8
  have hc := H8.out.cell
  go_wp2_with fail
  refine (tally.sizeL p 2 2 _ _ hc).mono ?_
  rintro e w9 ⟨rfl, rfl⟩
  go_wp2
  go_ret
  exact ⟨rfl, HB8.out⟩


/-! ### semblanceref55_Same: function 24 -/
def semblanceref55_Same.l0 : Nat → List Int → List Int → Int → Option (Bool)
  | 0, _, _, _ => none
  | k + 1, x0, x1, x5 => if x5 < (x0.length : Int) then (if 0 ≤ x5 then (if x5 < (x1.length : Int) then (if (rd x0 x5) = (rd x1 x5) then (semblanceref55_Same.l0 k x0 x1 (wrap64 (x5 + 1))) else (some false)) else (none)) else (none)) else (some true)
def semblanceref55_Same.f (k : Nat) (l0 : List Int) (l1 : List Int) : Option (Bool) := if (l0.length : Int) = (l1.length : Int) then (semblanceref55_Same.l0 k l0 l1 0) else (some false)
theorem semblanceref55_Same.mono_l : ∀ k, (∀ y0 y1 y2, LeO (semblanceref55_Same.l0 k y0 y1 y2) (semblanceref55_Same.l0 (k + 1) y0 y1 y2))
  | 0 => fun _ _ _ r h => by simp [semblanceref55_Same.l0] at h
  | k + 1 => by
    have ih0 := semblanceref55_Same.mono_l k
    · intro y0 y1 y2
      unfold semblanceref55_Same.l0
      repeat' first
      | (with_reducible exact ih0 _ _ _)
      | (with_reducible exact LeO.refl _)
      | (with_reducible exact LeO.none _)
      | (with_reducible refine LeO.ite ?_ ?_)
      | (with_reducible refine LeO.bind ?_ (fun _ => ?_))
      | exact ih0 _ _ _
      | exact LeO.none _
      | refine LeO.ite ?_ ?_
      | refine LeO.bind ?_ (fun _ => ?_)
theorem semblanceref55_Same.mono : ∀ a0 a1 k, LeO (semblanceref55_Same.f k a0 a1) (semblanceref55_Same.f (k + 1) a0 a1) := by
  intro a0 a1 k
  have ih0 := semblanceref55_Same.mono_l k
  unfold semblanceref55_Same.f
  repeat' first
      | (with_reducible exact ih0 _ _ _)
      | (with_reducible exact LeO.refl _)
      | (with_reducible exact LeO.none _)
      | (with_reducible refine LeO.ite ?_ ?_)
      | (with_reducible refine LeO.bind ?_ (fun _ => ?_))
      | exact ih0 _ _ _
      | exact LeO.none _
      | refine LeO.ite ?_ ?_
      | refine LeO.bind ?_ (fun _ => ?_)
set_option maxHeartbeats 8000000 in
set_option maxRecDepth 100000 in
theorem semblanceref55_Same.calls (k : Nat) (A0 : Option Addr) (c0 : Nat) (l0 : List Int) (A1 : Option Addr) (c1 : Nat) (l1 : List Int) (r : Bool) (w : World) (hr0 : Kd.C (Kd.int .u64) w A0 l0.length l0) (hc0 : l0.length ≤ c0) (hr1 : Kd.C (Kd.int .u64) w A1 l1.length l1) (hc1 : l1.length ≤ c1) (h : semblanceref55_Same.f k l0 l1 = some r) :
    Calls Try.prog 24 #[.slice A0 l0.length c0, .slice A1 l1.length c1] w fun e w' => e = .returned (.bool r) ∧ Drawn0 w w' := by
  have HR0 := Aside0.mk hr0
  have HC0 := Aside0.mk hc0
  clear hr0 hc0
  have HR1 := Aside0.mk hr1
  have HC1 := Aside0.mk hc1
  clear hr1 hc1
  have H : (if (l0.length : Int) = (l1.length : Int) then (semblanceref55_Same.l0 k l0 l1 0) else (some false)) = some r := h
  clear h
  by_cases c3 : (l0.length : Int) = (l1.length : Int)
  · rw [if_pos c3] at H
    have c3b0 : ((l0.length : Int) == (l1.length : Int)) = true := beq_iff_eq.mpr c3
    have c3b1 : ((l0.length : Int) != (l1.length : Int)) = false := bne_eq_false_iff_eq.mpr c3
    have c3b2 : (l0.length == l1.length) = true := by first | simpa using c3 | (simp at c3 ⊢; omega)
    clear c3
    have H' := Aside0.mk H
    clear H
    go_enter Try.func24, Try.ntmps24
    go_wp2
    repeat (go_quiet (fail); try go_wp2)
    go_loopg [5] k (fun kq v5 w' => ∃ (x5_1 : Int), v5 = .int .i64 x5_1 ∧ Aside0 (semblanceref55_Same.l0 kq l0 l1 x5_1 = some r) ∧ Aside0 (kq ≤ k) ∧ Drawn0 w w')
    case atStart => exact ⟨(0), (by first | rfl | (simp; done) | (simp [*]; done)), H', ⟨Nat.le_refl _⟩, by repeat (first | exact Drawn0.refl _ | apply Drawn0.step)⟩
    case round =>
      clear H'
      try clear c1
      try clear c2
      try clear p2
      try clear c3
      try clear c3b0
      try clear c3b1
      try clear c3b2
      obtain ⟨x5_1, rfl, HA, HK1, ⟨m1, rfl⟩⟩ := hrel
      cases gk with
      | zero => exact absurd HA.out (by simp [semblanceref55_Same.l0])
      | succ k1 =>
        have H := HA.out
        clear HA
        simp only [semblanceref55_Same.l0] at H
        by_cases c4 : x5_1 < (l0.length : Int)
        · rw [if_pos c4] at H
          have c4b0 : decide (x5_1 < (l0.length : Int)) = true := decide_eq_true c4
          clear c4
          by_cases c5 : 0 ≤ x5_1
          · rw [if_pos c5] at H
            have c5b0 : decide (0 ≤ x5_1) = true := decide_eq_true c5
            clear c5
            by_cases c6 : x5_1 < (l1.length : Int)
            · rw [if_pos c6] at H
              have c6b0 : decide (x5_1 < (l1.length : Int)) = true := decide_eq_true c6
              clear c6
              by_cases c7 : (rd l0 x5_1) = (rd l1 x5_1)
              · rw [if_pos c7] at H
                have c7b0 : ((rd l0 x5_1) == (rd l1 x5_1)) = true := beq_iff_eq.mpr c7
                have c7b1 : ((rd l0 x5_1) != (rd l1 x5_1)) = false := bne_eq_false_iff_eq.mpr c7
                clear c7
                have H' := Aside0.mk H
                clear H
                have p101 : 0 ≤ (x5_1 : Int) := of_decide_eq_true (by first | (with_reducible assumption) | assumption)
                have q101 : x5_1 < (l0.length : Int) := of_decide_eq_true (by first | (with_reducible assumption) | assumption)
                obtain ⟨ad101, e101, hx101_0⟩ := Kd.at_int HR0.out x5_1 p101 q101
                cases e101
                replace p101 := eq_true p101
                replace q101 := eq_true q101
                have p102 : 0 ≤ (x5_1 : Int) := of_decide_eq_true (by first | (with_reducible assumption) | assumption)
                have q102 : x5_1 < (l1.length : Int) := of_decide_eq_true (by first | (with_reducible assumption) | assumption)
                obtain ⟨ad102, e102, hx102_0⟩ := Kd.at_int HR1.out x5_1 p102 q102
                cases e102
                replace p102 := eq_true p102
                replace q102 := eq_true q102
                go_wp2
                repeat (go_quiet (fail); try go_wp2)
                go_roundg k1
                case measure => have := HK1.out; omega
                case rel => exact ⟨(wrap64 (x5_1 + 1)), (by first | rfl | (simp; done) | (simp [*]; done)), H', ⟨by have := HK1.out; omega⟩, by repeat (first | exact Drawn0.refl _ | apply Drawn0.step)⟩
              · rw [if_neg c7] at H
                have c7b0 : ((rd l0 x5_1) == (rd l1 x5_1)) = false := beq_eq_false_iff_ne.mpr c7
                have c7b1 : ((rd l0 x5_1) != (rd l1 x5_1)) = true := bne_iff_ne.mpr c7
                obtain rfl := Option.some.inj H
                have p101 : 0 ≤ (x5_1 : Int) := of_decide_eq_true (by first | (with_reducible assumption) | assumption)
                have q101 : x5_1 < (l0.length : Int) := of_decide_eq_true (by first | (with_reducible assumption) | assumption)
                obtain ⟨ad101, e101, hx101_0⟩ := Kd.at_int HR0.out x5_1 p101 q101
                cases e101
                replace p101 := eq_true p101
                replace q101 := eq_true q101
                have p102 : 0 ≤ (x5_1 : Int) := of_decide_eq_true (by first | (with_reducible assumption) | assumption)
                have q102 : x5_1 < (l1.length : Int) := of_decide_eq_true (by first | (with_reducible assumption) | assumption)
                obtain ⟨ad102, e102, hx102_0⟩ := Kd.at_int HR1.out x5_1 p102 q102
                cases e102
                replace p102 := eq_true p102
                replace q102 := eq_true q102
                go_wp2
                repeat (go_quiet (fail); try go_wp2)
                go_ret
                exact ⟨by first | rfl | (simp; done) | (simp [*]; done), by repeat (first | exact Drawn0.refl _ | apply Drawn0.step)⟩
            · rw [if_neg c6] at H
              exact absurd H (by simp)
          · rw [if_neg c5] at H
            exact absurd H (by simp)
        · rw [if_neg c4] at H
          have c4b0 : decide (x5_1 < (l0.length : Int)) = false := decide_eq_false c4
          clear c4
          obtain rfl := Option.some.inj H
          go_wp2
          repeat (go_quiet (fail); try go_wp2)
          go_ret
          exact ⟨by first | rfl | (simp; done) | (simp [*]; done), by repeat (first | exact Drawn0.refl _ | apply Drawn0.step)⟩
  · rw [if_neg c3] at H
    have c3b0 : ((l0.length : Int) == (l1.length : Int)) = false := beq_eq_false_iff_ne.mpr c3
    have c3b1 : ((l0.length : Int) != (l1.length : Int)) = true := bne_iff_ne.mpr c3
    have c3b2 : (l0.length == l1.length) = false := by first | simpa using c3 | (simp at c3 ⊢; omega)
    obtain rfl := Option.some.inj H
    go_enter Try.func24, Try.ntmps24
    go_wp2
    repeat (go_quiet (fail); try go_wp2)
    go_ret
    exact ⟨by first | rfl | (simp; done) | (simp [*]; done), by repeat (first | exact Drawn0.refl _ | apply Drawn0.step)⟩

end Go.Proofs.Ytjlegibfeenglaa.XV
