/-
  Small words on blocks, for callers of iterators.
-/
import Derived.RangeFuncNested
import Derived.RangeFuncBound
import Derived.RangeFuncCalls
import Derived.RangeFuncLeaves
import Derived.Shelf.Abstract
import Derived.Shelf.RegionOpen
import Derived.WalkKit
import Derived.OwnWalkIn
import Derived.TacticsInMore
import Derived.LoopNIn
import Derived.LoopIn
import Derived.Test.YtahjiiigpndaeaaDoorLst
set_option linter.unusedVariables false
set_option linter.unusedSimpArgs false
namespace Go.Proofs.YtahjiiigpndaeaaDoor
open Go.RowKit Go.Shelf

theorem ownFrom_blk {β : Type} (n k : Nat) (t : TypeId) (f : β → Array Value) : OwnFrom n (fun (s : β) W => Blk W k t (f s)) :=
  fun s W W' row hs hg hr => Blk.grown hs hg (fun e => by
    obtain ⟨_, o, ho, hc⟩ := hr k e.symm
    rw [show W.heap[k]? = _ from hs] at ho
    cases ho; cases hc)
theorem ownFrom_g {β : Type} {n : Nat} {w : World} (hn : w.heap.size ≤ n) : OwnFrom n (fun (_ : β) W => G w W) := ownFrom_below (Nat.le_refl _) hn
theorem ownFrom_pure {β : Type} (n : Nat) (p : β → Prop) : OwnFrom n (fun (s : β) (_ : World) => p s) := fun _ _ _ _ hs _ _ => hs
theorem Blk.not_row {W : World} {k : Nat} {t e : TypeId} {cs : Array Value} (h : Blk W k t cs) (hte : t ≠ e) {base size n : Nat} {v : Value} {xs : List Value} (hr : W.ownsRow base e size v n xs) : some k ≠ v.ownBlock := by
  rcases hr.2 with ⟨rfl, _⟩ | ⟨g, cap, cur, rfl, _, hgb, _⟩
  · simp [Value.ownBlock]
  · intro h2
    obtain rfl : k = g := by simpa [Value.ownBlock] using h2
    rw [show W.heap[k]? = _ from h] at hgb
    cases hgb
    exact hte rfl
theorem Blk.new1 (w : World) (o : Obj) (t : TypeId) (cs : Array Value) : Blk ((w.alloc o).alloc (.cells cs t)) (w.heap.size + 1) t cs := by
  have := Blk.new (w.alloc o) t cs
  rwa [World.size_alloc] at this
theorem Blk.new2 (w : World) (o o2 : Obj) (t : TypeId) (cs : Array Value) : Blk (((w.alloc o).alloc o2).alloc (.cells cs t)) (w.heap.size + 1 + 1) t cs := by
  have := Blk.new1 (w.alloc o) o2 t cs
  rwa [World.size_alloc] at this
theorem Blk.new3 (w : World) (o o2 o3 : Obj) (t : TypeId) (cs : Array Value) : Blk ((((w.alloc o).alloc o2).alloc o3).alloc (.cells cs t)) (w.heap.size + 1 + 1 + 1) t cs := by
  have := Blk.new2 (w.alloc o) o2 o3 t cs
  rwa [World.size_alloc] at this
theorem Blk.new4 (w : World) (o o2 o3 o4 : Obj) (t : TypeId) (cs : Array Value) : Blk (((((w.alloc o).alloc o2).alloc o3).alloc o4).alloc (.cells cs t)) (w.heap.size + 1 + 1 + 1 + 1) t cs := by
  have := Blk.new3 (w.alloc o) o2 o3 o4 t cs
  rwa [World.size_alloc] at this
theorem Blk.int_eq {w : World} {k : Nat} {t : TypeId} {q : IntKind} {a b : Int} (h : Blk w k t #[.int q a]) (e : b = a) : Blk w k t #[.int q b] := e ▸ h
theorem ownsRow_g {a b : World} {base : Nat} {e : TypeId} {size : Nat} {v : Value} {k : Nat} {xs : List Value} (h : a.ownsRow base e size v k xs) (g : G a b) : b.ownsRow base e size v k xs := by
  obtain ⟨hl, hv⟩ := h
  refine ⟨hl, ?_⟩
  rcases hv with hv | ⟨r, cap, cur, hv, hb, hg, hr⟩
  · exact .inl hv
  · exact .inr ⟨r, cap, cur, hv, hb, Blk.g (show Blk a r e cur from hg) g, hr⟩
theorem ownsRow_base {a : World} {base base' : Nat} {e : TypeId} {size : Nat} {v : Value} {k : Nat} {xs : List Value} (h : a.ownsRow base e size v k xs) (hb : base' ≤ base) : a.ownsRow base' e size v k xs := by
  obtain ⟨hl, hv⟩ := h
  refine ⟨hl, ?_⟩
  rcases hv with hv | ⟨r, cap, cur, hv, hb2, hg, hr⟩
  · exact .inl hv
  · exact .inr ⟨r, cap, cur, hv, Nat.le_trans hb hb2, hg, hr⟩
/-- at a caller's return the block for the rounds' deferred calls is turned once more -/
theorem G.put {w W : World} (h : G w W) {D : Nat} {o : Obj} (o' : Obj) (hD : w.heap.size ≤ D) (hK : W.heap[D]? = some o) : G w (W.putObj D o') :=
  Below.grown h (grownBy_putObj' W D o') h.size (fun r e => by cases e; exact hD)
theorem Blk.put {W : World} {k : Nat} {t : TypeId} {cs : Array Value} (h : Blk W k t cs) {D : Nat} {o : Obj} (o' : Obj) (hK : W.heap[D]? = some o) (hc : o.isCells = false) : Blk (W.putObj D o') k t cs :=
  Blk.grown h (grownBy_putObj' W D o') (fun e => by cases e; rw [show W.heap[k]? = _ from h] at hK; cases hK; cases hc)
end Go.Proofs.YtahjiiigpndaeaaDoor
