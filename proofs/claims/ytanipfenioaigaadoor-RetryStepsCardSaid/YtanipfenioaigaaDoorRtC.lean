/-
  Package retry: the iterator of the times at which attempts are ready; slices.AppendSeq and slices.Collect over it.
-/
import Derived.Maps.AppendAt
import Derived.RangeFuncBox
import Derived.Deep.RegionHeld3
import Derived.Deep.MidRow
import Derived.Test.YtanipfenioaigaaDoorRtL
import Derived.Test.YtanipfenioaigaaDoorRtA
set_option linter.unusedVariables false
set_option linter.unusedSimpArgs false
namespace Go.Proofs.YtanipfenioaigaaDoor
open Go.RowKit Go.Shelf
attribute [local go_sem] Oper.semAt_some

/-- the blocks below n lie as they lay -/
def KeepN (n : Nat) (W W' : World) : Prop := W.heap.size ≤ W'.heap.size ∧ ∀ k, k < n → W'.heap[k]? = W.heap[k]?
theorem KeepN.trans {n : Nat} {a b c : World} (h : KeepN n a b) (k : KeepN n b c) : KeepN n a c := ⟨Nat.le_trans h.1 k.1, fun i hi => (k.2 i hi).trans (h.2 i hi)⟩
theorem KeepN.cell {n : Nat} {a b : World} (h : KeepN n a b) {k i : Nat} (hk : k < n) {r : Option Value} (hc : a.cell? ⟨k, i, none⟩ = r) : b.cell? ⟨k, i, none⟩ = r := by
  rw [← hc]
  simp only [World.cell?, h.2 k hk]
theorem KeepN.blk {n : Nat} {a b : World} (h : KeepN n a b) {k : Nat} {t : TypeId} {cs : Array Value} (hk : k < n) (hb : Blk a k t cs) : Blk b k t cs := (h.2 k hk).trans hb
theorem KeepN.of_grown {n : Nat} {a b : World} {r : Option Nat} (h : a.grownBy b r) (hn : n ≤ a.heap.size) (hr : ∀ k, r = some k → n ≤ k) : KeepN n a b :=
  ⟨h.size, fun k hk => h.block k (by omega) (fun e => by have := hr k e.symm; omega)⟩
theorem KeepN.of_g {n : Nat} {a b : World} (h : G a b) (hn : n ≤ a.heap.size) : KeepN n a b := ⟨h.size, fun k hk => h.block k (by omega)⟩
theorem KeepN.put {n : Nat} (W : World) (l : Nat) (o : Obj) (hl : n ≤ l) : KeepN n W (W.putObj l o) := ⟨by simp, fun k hk => World.putObj_heap_other (by omega)⟩
/-- what the iterator reads and writes: its three boxes, the runs, the table of mix -/
structure TmAt (n kO kF kR : Nat) (M B C J a : Int) (s : ByteArray) (d : Int) (A : Option Addr) (c : Nat) (l : List Int) (t : Int) (W : World) : Prop where
  xo : Blk W kO 65 #[.int .i64 M, .int .i64 B, .int .i64 C, .int .i64 J, .int .u64 a, .string s, .int .i64 d]
  xf : Blk W kF 2 #[.int .i64 t]
  xr : Blk W kR 27 #[.slice A l.length c]
  rd : ∀ i, i < l.length → ∃ b o, A = some ⟨b, o, none⟩ ∧ b ≠ kF ∧ b < n ∧ W.cell? ⟨b, o + i, none⟩ = some (.int .i64 (l[i]?.getD 0))
  tb : Tab W
  no : kO ≠ kF ∧ kR ≠ kF ∧ 0 ≠ kF
  lt : kO < n ∧ kF < n ∧ kR < n ∧ 0 < n
section
variable {n kO kF kR : Nat} {M B C J a : Int} {s : ByteArray} {d : Int} {A : Option Addr} {c : Nat} {l : List Int} {t : Int} {W W' : World}
theorem Tab.keep (h : Tab W) (g : KeepN n W W') (hn : 0 < n) : Tab W' := by
  obtain ⟨hz, c0, c1, c2, c3, c4, c5⟩ := h
  exact ⟨by have := g.1; omega, g.cell hn c0, g.cell hn c1, g.cell hn c2, g.cell hn c3, g.cell hn c4, g.cell hn c5⟩
theorem TmAt.keep (h : TmAt n kO kF kR M B C J a s d A c l t W) (g : KeepN n W W') : TmAt n kO kF kR M B C J a s d A c l t W' :=
  ⟨g.blk h.lt.1 h.xo, g.blk h.lt.2.1 h.xf, g.blk h.lt.2.2.1 h.xr, fun i hi => by
    obtain ⟨b, o, e, hb, hl, hc⟩ := h.rd i hi
    exact ⟨b, o, e, hb, hl, g.cell hl hc⟩, h.tb.keep g h.lt.2.2.2, h.no, h.lt⟩
theorem TmAt.g (h : TmAt n kO kF kR M B C J a s d A c l t W) (g : G W W') (hn : n ≤ W.heap.size) : TmAt n kO kF kR M B C J a s d A c l t W' := h.keep (KeepN.of_g g hn)
theorem Tab.far (h : Tab W) {p : Addr} (hp : 0 ≠ p.block) (u : Value) : Tab (W.setCell p u) := by
  obtain ⟨hz, c0, c1, c2, c3, c4, c5⟩ := h
  have hb : ∀ i v, W.cell? ⟨0, i, none⟩ = some v → (W.setCell p u).cell? ⟨0, i, none⟩ = some v := fun i v hc => by
    rw [← hc]
    simp only [World.cell?, Below.heap_setCell W p u 0 hp]
  exact ⟨by simpa [World.setCell] using hz, hb _ _ c0, hb _ _ c1, hb _ _ c2, hb _ _ c3, hb _ _ c4, hb _ _ c5⟩
theorem TmAt.put (h : TmAt n kO kF kR M B C J a s d A c l t W) (t' : Int) : TmAt n kO kF kR M B C J a s d A c l t' (W.setCell ⟨kF, 0, none⟩ (.int .i64 t')) :=
  ⟨h.xo.far h.no.1 _, h.xf.set_ 0 _, h.xr.far h.no.2.1 _, fun i hi => by
    obtain ⟨b, o, e, hb, hl, hc⟩ := h.rd i hi
    refine ⟨b, o, e, hb, hl, ?_⟩
    rw [← hc]
    simp only [World.cell?, Below.heap_setCell W ⟨kF, 0, none⟩ (.int .i64 t') b hb], h.tb.far h.no.2.2 _, h.no, h.lt⟩
end
/-- when the attempt k + 1 is ready -/
def tAt (M B C J a : Int) (s : ByteArray) (d first : Int) (l : List Int) : Nat → Int
  | 0 => first
  | k + 1 => tAt M B C J a s d first l k + (l[k]?.getD 0 + aft M B C J a s d ((k : Int) + 1))
theorem tAt_bd {M B C J a : Int} {s : ByteArray} {d first : Int} {l : List Int} (h0 : tmB first) (hl : ∀ x ∈ l, spB x) (k : Nat) : 0 ≤ tAt M B C J a s d first l k ∧ tAt M B C J a s d first l k ≤ 253402300799 + k * 206158430208 := by
  induction k with
  | zero => unfold tmB at h0; simp only [tAt]; omega
  | succ k ih =>
    have h1 := aft_bd M B C J a s d ((k : Int) + 1)
    have h2 : 0 ≤ l[k]?.getD 0 ∧ l[k]?.getD 0 ≤ 68719476736 := by
      rcases Nat.lt_or_ge k l.length with h | h
      · rw [List.getElem?_eq_getElem h]
        exact hl _ (List.getElem_mem h)
      · rw [List.getElem?_eq_none h]
        simp
    simp only [tAt]
    omega
def encT (f : Nat → Int) (k : Nat) : Array Value := #[.int .i64 (f k)]
end Go.Proofs.YtanipfenioaigaaDoor
