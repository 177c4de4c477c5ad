/-
  A range over a function whose iterator writes one box of its own (block kF) between two rounds: its contract (SeqWr) and the caller's law, for a body that is never left by a jump.
-/
import Derived.Test.YtanipfenioaigaaDoorBkW
set_option linter.unusedVariables false
set_option linter.unusedSimpArgs false
namespace Go.Proofs.YtanipfenioaigaaDoor
open Go.RowKit Go.Shelf

/-- the iterator's contract: the caller's word J abides new blocks, turns of walks' objects, and whatever is stored into the box kF -/
def SeqWr {α : Type} (F : Fence) (n : Nat) (P : Program) (g : Nat) (lb : Array Value) (encs : α → Array Value) (kF : Nat) (Kp : World → World → Prop) (S : List α → Prop) (N : Nat) (w : World) : Prop :=
  ∀ (l : Nat) (J : List α → World → Prop) (W : World), w = W →
    AbidesFrom W.heap.size J → (∀ s A u, J s A → J s (A.setCell ⟨kF, 0, none⟩ u)) →
    (∀ pre x W1, J pre W1 → pre.length < N → YieldAt F (n - 1) P l (encs x) W1 fun e W' => e = .returned (.bool true) ∧ J (pre ++ [x]) W' ∧ Kp W1 W') →
    J [] W → CallsIn F n P g (#[.func (.yield l) #[] #[]] ++ lb) W fun e W' => (∃ v, e = .returned v) ∧ ∃ xs, S xs ∧ J xs W'
def SeqW {α : Type} (F : Fence) (n : Nat) (P : Program) (g : Nat) (lb : Array Value) (encs : α → Array Value) (kF : Nat) (Kp : World → World → Prop) (S : List α → Prop) (N : Nat) (w : World) : Prop :=
  ∀ W, G w W → SeqWr F n P g lb encs kF Kp S N W
theorem wpIn_rangeFunc_wr {F : Fence} {n : Nat} {P : Program} {α : Type} {g : Operand} {ps : Array Tmp} {assign body : Code} {Q : Exit → Act → World → Prop} {a : Act} {w : World}
    (hro : F.round = none) (h1 : 1 ≤ n) {gf : Nat} {lb : Array Value} (hg : a.eval g = .func (.func gf) #[] lb) (hFg : F.fn gf) (eg : ∀ args w, (callFunc gf args).run P w = .ok (.enter gf args) w)
    {encs : α → Array Value} {kF : Nat} {Kp : World → World → Prop} {S : List α → Prop} {N : Nat} (hseq : SeqW F (n - 1) P gf lb encs kF Kp S N w) (hkF : kF < w.heap.size)
    (hKt : ∀ {A B C : World}, Kp A B → Kp B C → Kp A C) (hKb : ∀ (W : World) (l : Nat) (o o' : Obj), w.heap.size ≤ l → W.heap[l]? = some o → o.isCells = false → o.isWalk = false → Kp W (W.putObj l o')) (hps : ∀ x, (encs x).size = ps.size)
    (I : List α → World → Prop) (hI : OwnFrom w.heap.size I) (hIw : ∀ s W u, I s W → I s (W.setCell ⟨kF, 0, none⟩ u)) (h0 : I [] w) (a₁ : α → Act)
    (hassign : ∀ (l : Nat) (x : α) (W : World) (K : Act → World → Prop), K (a₁ x) W →
      assign.wpIn (F.inRound l) (n - 1 - 1) P (Exit.then K (fun _ _ _ => False)) { tmps := (ps.zip (encs x)).foldl (fun t (p, v) => t.setIfInBounds p v) a.tmps, defers := [] } W)
    (hbody : ∀ (l : Nat) (pre : List α) (x : α) (W : World), I pre W → pre.length < N → body.wpIn (F.inRound l) (n - 1 - 1) P (ownPostG w.heap.size Kp I (fun _ _ _ => False) (pre ++ [x]) W) (a₁ x) W)
    (hdone : ∀ (D : Nat) (xs : List α) (W : World), w.heap.size ≤ D → S xs → I xs W → W.heap[D]? = some (.deferred (some [])) → Q .normal { a with defers := { target := .collected D, args := #[] } :: a.defers } W) :
    (Code.rangeFunc g ps assign body).wpIn F n P Q a w := by
  refine wpIn_rangeFunc fun fn hfn => ?_
  rw [hro]
  -- the loop's record and the block for deferred calls, both new
  let R : LoopState → Option Code → Obj := fun st pe => .loop { state := st, pending := pe, fn, tmps := a.tmps, params := ps, assign, body, defers := w.heap.size }
  let D := w.heap.size
  let l := w.heap.size + 1
  let V := (w.alloc (.deferred (some []))).alloc (R .ready none)
  have hVl : V.heap[l]? = some (R .ready none) := by
    have := World.alloc_heap_new (w.alloc (.deferred (some []))) (R .ready none)
    rwa [World.size_alloc] at this
  have hVD : V.heap[D]? = some (.deferred (some [])) := (Below.heap_alloc _ _ _ (by simp [D])).trans (World.alloc_heap_new w _)
  have hVs : V.heap.size = w.heap.size + 2 := by simp [V]
  have hVI : I [] V := hI.alloc _ (hI.alloc _ h0)
  have hVg : G w V := ((G.refl w).alloc _).alloc _
  refine ⟨l, [{ target := .collected D, args := #[] }], V, { target := .fn (.func gf) lb, args := #[.func (.yield l) #[] #[]] }, V, gf, #[.func (.yield l) #[] #[]] ++ lb, V, run_enterLoop_outer _ _ _ _ _, ?_, ?_, ?_, fun _ => h1, ?_⟩
  · simp only [resolve, hg]
    simp [go_sem, l]
  · intro f' hf'
    simp [Target.leads] at hf'
    subst hf'
    exact hFg
  · simp [invoke, go_sem, eg]
  let J : List α → World → Prop := fun pre W => I pre W ∧ W.heap[l]? = some (R .ready none) ∧ W.heap[D]? = some (.deferred (some []))
  have hJ1 : AbidesFrom V.heap.size J := fun s A B row hs hgr hr => by
    have hw : ∀ r, row = some r → ∃ o : Obj, A.heap[r]? = some o ∧ o.isWalk = true := fun r e => (hr r e).2
    exact ⟨hI s A B row hs.1 hgr (fun r e => by
        obtain ⟨hb, o, ho, hk⟩ := hr r e
        exact ⟨by omega, o, ho, Obj.not_cells_of_walk hk⟩), (grownBy_keeps hgr hw hs.2.1 rfl).trans hs.2.1, (grownBy_keeps hgr hw hs.2.2 rfl).trans hs.2.2⟩
  have hJ2 : ∀ s A u, J s A → J s (A.setCell ⟨kF, 0, none⟩ u) := fun s A u hs =>
    ⟨hIw s A u hs.1, (Below.heap_setCell A _ u l (by show l ≠ kF; simp only [l]; omega)).trans hs.2.1, (Below.heap_setCell A _ u D (by show D ≠ kF; simp only [D]; omega)).trans hs.2.2⟩
  refine (hseq V hVg l J V rfl hJ1 hJ2 (fun pre x W hJ hlen => ?_) ⟨hVI, hVl, hVD⟩).mono ?_
  · -- a round
    obtain ⟨hi, hl, hd⟩ := hJ
    have hlt : l < W.heap.size := (Array.getElem?_eq_some_iff.1 hl).1
    refine ⟨fn, _, assign, body, run_yield hl (hps x), roundIn_of_wpIn hfn (hassign _ x W _ ⟨_, run_beginRound hl rfl, ?_⟩)⟩
    have hl2 : (W.putObj l (R .busy none)).heap[l]? = some (R .busy none) := World.putObj_heap_same hlt
    have hd2 : (W.putObj l (R .busy none)).heap[D]? = some (.deferred (some [])) := (World.putObj_heap_other (by simp [l, D])).trans hd
    have hk2 : Kp W (W.putObj l (R .busy none)) := hKb _ _ _ _ (by simp [l]) hl rfl rfl
    refine wpIn_mono (hbody l pre x (W.putObj l (R .busy none)) (hI.putObj _ hi (by simp [l]) hl rfl) hlen) ?_
    intro e a3 W3 hp
    cases e with
    | normal =>
      obtain ⟨hk3, hp3, hi3⟩ := hp
      have hl3 := hk3.same l _ (by simp [l]) hl2 rfl
      have hd3 := hk3.same D _ (Nat.le_refl _) hd2 rfl
      refine ⟨_, _, run_endRound none hl3, rfl, ⟨hI.putObj _ hi3 (by simp [l]) hl3 rfl, World.putObj_heap_same (Array.getElem?_eq_some_iff.1 hl3).1, (World.putObj_heap_other (by simp [l, D])).trans hd3⟩, hKt (hKt hk2 hp3) (hKb _ _ _ _ (by simp [l]) hl3 rfl rfl)⟩
    | ret => exact hp.2.elim
    | exit id => exact hp.2.elim
    | goto t => exact hp.2.elim
    | panic ch => exact hp.elim
    | outgrown => exact hp.elim
  · -- behind the iterator
    rintro e W2 ⟨⟨v, rfl⟩, xs, hS, hi, hl, hd⟩
    exact ⟨none, _, run_endLoop hl (by simp), hdone D xs _ (Nat.le_refl _) hS (hI.putObj _ hi (by simp [l]) hl rfl) ((World.putObj_heap_other (by simp [l, D])).trans hd)⟩
end Go.Proofs.YtanipfenioaigaaDoor
