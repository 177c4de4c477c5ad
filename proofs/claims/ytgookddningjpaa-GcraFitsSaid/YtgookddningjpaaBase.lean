/-
  Words for memory that all contracts of this seat use: G (the world has new blocks; nothing that was there has turned), Blk (a block that is known whole), and small facts on them.
-/
import Derived.Test.YtgookddningjpaaProg
import Derived.WalkKit
import Derived.WalkSpells
import Derived.WalkLawsBesides
import Derived.Deep.QuietTactic
import Derived.BigQuiet
import Derived.Lib.Hide
import Derived.Laws.Bits64
import Derived.Laws.Bits64b
import Derived.Laws.BitsAllLaws
set_option linter.unusedVariables false
set_option linter.unusedSimpArgs false
namespace Go.Proofs.Ytgookddningjpaa
open Go.RowKit

/-- The world has new blocks; nothing that was there has turned. -/
def G (w w' : World) : Prop := Below w.heap.size w w'
theorem G.refl (w : World) : G w w := Below.refl _ _
theorem G.trans {a b c : World} (h : G a b) (k : G b c) : G a c := Below.trans h (Below.mono k h.size)
theorem G.alloc {a b : World} (h : G a b) (o : Obj) : G a (b.alloc o) := Below.alloc h h.size o
theorem G.drew {a b : World} (h : G a b) : G a b.drew := Below.drew h
theorem G.drewN {a b : World} (h : G a b) (n : Nat) : G a (b.drewN n) := ⟨h.os, h.tape, h.output, h.size, h.block⟩
theorem G.setCell {a b : World} (h : G a b) {p : Addr} (hp : a.heap.size ≤ p.block) (u : Value) : G a (b.setCell p u) := Below.setCell h hp u
theorem G.size {a b : World} (h : G a b) : a.heap.size ≤ b.heap.size := Below.size h
theorem G.cell {a b : World} (h : G a b) {k i : Nat} {r : Option Value} (hk : k < a.heap.size) (hc : a.cell? ⟨k, i, none⟩ = r) : b.cell? ⟨k, i, none⟩ = r := (Below.cell h (p := ⟨k, i, none⟩) hk).trans hc
theorem G.frozen {a b : World} (h : G a b) {k i : Nat} {r : Bool} (hk : k < a.heap.size) (hc : a.frozen? ⟨k, i, none⟩ = r) : b.frozen? ⟨k, i, none⟩ = r := (Below.frozen h (p := ⟨k, i, none⟩) hk).trans hc
theorem G.cells {a b : World} (h : G a b) : (∀ k i, k < a.heap.size → b.cell? ⟨k, i, none⟩ = a.cell? ⟨k, i, none⟩) ∧ (∀ k i, k < a.heap.size → b.frozen? ⟨k, i, none⟩ = a.frozen? ⟨k, i, none⟩) :=
  ⟨fun k i hk => Below.cell h (p := ⟨k, i, none⟩) hk, fun k i hk => Below.frozen h (p := ⟨k, i, none⟩) hk⟩
theorem G.grown {a b c : World} {row : Option Nat} (h : G a b) (k : b.grownBy c row) (hr : ∀ r, row = some r → a.heap.size ≤ r) : G a c := Below.grown h k h.size hr
theorem G.own {a b c : World} {r : Nat} (h : G a b) (k : b.grownBy c (some r)) (hr : a.heap.size ≤ r) : G a c := h.grown k (fun x e => by cases e; exact hr)
theorem grown_of_G {a b : World} (h : G a b) (row : Option Nat) : a.grownBy b row := ⟨h.os, h.tape, h.output, h.size, fun i hi _ => h.block i hi⟩
theorem grown_trans {a b c : World} {row : Option Nat} (h : a.grownBy b row) (k : b.grownBy c row) : a.grownBy c row :=
  ⟨k.os.trans h.os, k.tape.trans h.tape, k.output.trans h.output, Nat.le_trans h.size k.size, fun i hi hne => (k.block i (Nat.lt_of_lt_of_le hi h.size) hne).trans (h.block i hi hne)⟩
theorem grown_drewN {a b : World} {row : Option Nat} (h : a.grownBy b row) (n : Nat) : a.grownBy (b.drewN n) row := ⟨h.os, h.tape, h.output, h.size, h.block⟩
theorem grown_drew {a b : World} {row : Option Nat} (h : a.grownBy b row) : a.grownBy b.drew row := ⟨h.os, h.tape, h.output, h.size, h.block⟩
theorem grown_setCell {a b : World} {r : Nat} (h : a.grownBy b (some r)) (i : Nat) (u : Value) : a.grownBy (b.setCell ⟨r, i, none⟩ u) (some r) :=
  ⟨h.os, h.tape, h.output, by simpa [World.setCell] using h.size, fun j hj hne => (Below.heap_setCell b ⟨r, i, none⟩ u j (by rintro rfl; exact hne rfl)).trans (h.block j hj hne)⟩

/-- Block k is known whole: the cells cs of element type t, none frozen. -/
def Blk (w : World) (k : Nat) (t : TypeId) (cs : Array Value) : Prop := w.heap[k]? = some (.cells cs t (0, 0))
section
variable {w w' : World} {k : Nat} {t : TypeId} {cs : Array Value}
theorem Blk.lt (h : Blk w k t cs) : k < w.heap.size := (Array.getElem?_eq_some_iff.1 h).1
theorem Blk.cell (h : Blk w k t cs) (i : Nat) : w.cell? ⟨k, i, none⟩ = cs[i]? := cell_of_row w k i cs t (0, 0) h
theorem Blk.frozen (h : Blk w k t cs) (i : Nat) : w.frozen? ⟨k, i, none⟩ = false := frozen_of_row w k i cs t h
theorem Blk.new (w : World) (t : TypeId) (cs : Array Value) : Blk (w.alloc (.cells cs t)) w.heap.size t cs := heap_alloc_new w _
theorem Blk.drewN (h : Blk w k t cs) (n : Nat) : Blk (w.drewN n) k t cs := h
theorem Blk.alloc (h : Blk w k t cs) (o : Obj) : Blk (w.alloc o) k t cs := (Below.heap_alloc w o k h.lt).trans h
theorem Blk.g (h : Blk w k t cs) (g : G w w') : Blk w' k t cs := (g.block k h.lt).trans h
theorem Blk.grown (h : Blk w k t cs) {row : Option Nat} (g : w.grownBy w' row) (hne : some k ≠ row) : Blk w' k t cs := (g.block k h.lt hne).trans h
theorem Blk.set_ (h : Blk w k t cs) (i : Nat) (u : Value) : Blk (w.setCell ⟨k, i, none⟩ u) k t (cs.setIfInBounds i u) := heap_setCell_same w k i cs t u h
theorem Blk.far (h : Blk w k t cs) {p : Addr} (hp : k ≠ p.block) (u : Value) : Blk (w.setCell p u) k t cs := (Below.heap_setCell w p u k hp).trans h
end
/-- A region whose exits other than the normal one are not met: what follows is behind a name, so that the kernel need not open it at each operation. -/
def OnlyN (R : Act → World → Prop) : Exit → Act → World → Prop
  | .normal, a, w => R a w
  | _, _, _ => False
theorem wp_only_k {P : Program} {c : Code} {Q : Exit → Act → World → Prop} {a : Act} {w : World} (h : ∀ K : Act → World → Prop, (∀ a w, Q .normal a w → K a w) → c.wp P (OnlyN K) a w) : c.wp P Q a w :=
  Code.wp_mono (fun e a w hq => by cases e <;> first | exact hq | exact hq.elim) (h (fun a w => Q .normal a w) (fun _ _ h => h))
/-- The last statement of a block, made ready for a cut. -/
theorem wp_then {P : Program} {c : Code} {id : Nat} {K : Act → World → Prop} {Q : Exit → Act → World → Prop} {a : Act} {w : World} (h : c.wp P (Exit.then K (Exit.inBlock id (Exit.then K Q))) a w) : c.wp P (Exit.inBlock id (Exit.then K Q)) a w :=
  Code.wp_mono (fun e a w hq => by cases e <;> exact hq) h
theorem mono_ {P : Program} {f : FuncId} {args : Array Value} {w : World} {R S : Ending → World → Prop} (h : Calls P f args w R) (k : ∀ e w', R e w' → S e w') : Calls P f args w S := h.mono k
end Go.Proofs.Ytgookddningjpaa
