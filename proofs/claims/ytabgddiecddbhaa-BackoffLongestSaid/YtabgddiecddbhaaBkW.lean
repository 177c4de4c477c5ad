/-
  Package backoff: the iterator of the waits, and its contract.
-/
import Derived.RangeFuncNested
import Derived.RangeFuncBound
import Derived.RangeFuncCalls
import Derived.RangeFuncLeaves
import Derived.Shelf.Abstract
import Derived.Shelf.RegionOpen
import Derived.WalkKit
import Derived.OwnWalkIn
import Derived.TacticsInMore
import Derived.LoopNIn
import Derived.LoopIn
import Derived.Test.YtabgddiecddbhaaBkC
set_option linter.unusedVariables false
set_option linter.unusedSimpArgs false
namespace Go.Proofs.Ytabgddiecddbhaa
open Go.RowKit Go.Shelf
attribute [local go_sem] Oper.semAt_some

/-- block b holds the rule -/
def RuleAt (w : World) (b : Nat) (M B C J : Int) : Prop := Blk w b 23 #[.int .i64 M, .int .i64 B, .int .i64 C, .int .i64 J]
def encW (B C : Int) (k : Nat) : Array Value := #[.int .i64 ((k : Int) + 1), .int .i64 (wAt B C k)]
def KeepR (b : Nat) (M B C J : Int) (W W' : World) : Prop := RuleAt W b M B C J → RuleAt W' b M B C J
set_option maxHeartbeats 400000 in
theorem waits_any (M B C J : Int) (w : World) :
    Calls Try.prog 28 #[.agg #[.int .i64 M, .int .i64 B, .int .i64 C, .int .i64 J]] w fun e w' => e = .returned (.func (.func 30) #[] #[.pointer (some ⟨w.heap.size, 0, none⟩)]) ∧ w' = w.alloc (.cells #[.int .i64 M, .int .i64 B, .int .i64 C, .int .i64 J] 23) := by
  go_enter Try.func28, Try.ntmps28
  go_wp2_with fail
  go_ret
  exact ⟨rfl, rfl⟩

theorem range_prefix {i m : Nat} (h : i ≤ m) : List.range i <+: List.range m :=
  List.prefix_iff_eq_take.2 (by simp [List.take_range, Nat.min_eq_left h])
set_option maxRecDepth 100000 in
set_option maxHeartbeats 2000000 in
theorem waits_stops (n : Nat) (hn : 1 ≤ n) (m : Nat) (B C J : Int) (hok : okR m B C J) (b : Nat) (w : World) (hb : RuleAt w b m B C J) :
    SeqStopsK Fence.wide n Try.prog 30 #[.pointer (some ⟨b, 0, none⟩)] (encW B C) (KeepR b m B C J) (fun xs => xs = List.range m) (fun pre => pre <+: List.range m) m w := fun l J1 Jx W hW hJ hJx hY h0 => by
  have hbW : RuleAt W b m B C J := hb.g hW
  have hm : m ≤ 20 := by unfold okR at hok; omega
  refine callsIn_of_wp Try.func30 rfl trivial ?_ rfl
  simp only [Try.ntmps30, List.size_toArray, List.length_cons, List.length_nil, Nat.reduceAdd, Nat.reduceSub, Array.replicate_succ, Array.replicate_zero, List.push_toArray, List.append_toArray, List.nil_append, List.cons_append]
  have c0 : W.cell? ⟨b, 0, none⟩ = some (.int .i64 m) := hbW.cell 0
  have c1 : W.cell? ⟨b, 1, none⟩ = some (.int .i64 B) := hbW.cell 1
  gi_wp2
  gi_loopw [3, 9] (fun wv kv wr => ∃ i : Nat, i ≤ m ∧ wv = .int .i64 (wAt B C i) ∧ kv = .int .i64 i ∧ J1 (List.range i) wr ∧ RuleAt wr b m B C J) (fun _ kv _ => m - (intOf kv).toNat)
  case atStart => exact ⟨0, by omega, rfl, rfl, h0, hbW⟩
  case round =>
    obtain ⟨i, hi, rfl, rfl, hJi, hbi⟩ := hrel
    clear hbW h0 c0 c1
    by_cases hlt : i < m
    · obtain ⟨fn, tmps, assign, body, hy, hR⟩ := hY (List.range i) i wr hJi (by simpa using hlt)
      have HE : Hid (wAt B C (i + 1) = min (wAt B C i + wAt B C i) C) := Lib.hid rfl
      obtain ⟨q0, q1, q2, -⟩ := wAt_bound hok i
      have hil : (i : Int) < m := by omega
      dsimp only [encW] at hy
      generalize wAt B C i = x at *
      gi_wp2
      refine hR.mono ?_
      rintro e W3 (⟨rfl, hJ3, hk3⟩ | ⟨rfl, hJx3⟩)
      · have hb3 := hk3 hbi
        have c2 : W3.cell? ⟨b, 2, none⟩ = some (.int .i64 C) := hb3.cell 2
        gi_wp2
        go_roundw
        case rel => exact ⟨i + 1, by omega, by rw [HE.out]; congr 1; split <;> omega, by go_num, by rw [List.range_succ]; exact hJ3, hb3⟩
        case measure => simp [intOf]; omega
      · gi_wp2
        refine bodyPost_ret (results_none rfl _ _ _) rfl ?_
        refine ⟨⟨_, rfl⟩, .inr ⟨List.range i ++ [i], ?_, hJx3⟩⟩
        rw [← List.range_succ]
        exact range_prefix hlt
    · obtain rfl : i = m := by omega
      gi_wp2
      go_end0
      exact ⟨⟨_, rfl⟩, .inl ⟨List.range i, rfl, hJi⟩⟩
/-! ### what a caller of an iterator owes: small words -/
theorem ownFrom_blk {β : Type} (n k : Nat) (t : TypeId) (f : β → Array Value) : OwnFrom n (fun (s : β) W => Blk W k t (f s)) :=
  fun s W W' row hs hg hr => Blk.grown hs hg (fun e => by
    obtain ⟨_, o, ho, hc⟩ := hr k e.symm
    rw [show W.heap[k]? = _ from hs] at ho
    cases ho; cases hc)
theorem ownFrom_g {β : Type} {n : Nat} {w : World} (hn : w.heap.size ≤ n) : OwnFrom n (fun (_ : β) W => G w W) := ownFrom_below (Nat.le_refl _) hn
theorem ownFrom_pure {β : Type} (n : Nat) (p : β → Prop) : OwnFrom n (fun (s : β) (_ : World) => p s) := fun _ _ _ _ hs _ _ => hs
theorem keepR_t {b : Nat} {M B C J : Int} {x y z : World} (h : KeepR b M B C J x y) (k : KeepR b M B C J y z) : KeepR b M B C J x z := fun r => k (h r)
theorem keepR_b {b : Nat} {M B C J : Int} {w : World} (hb : b < w.heap.size) (W : World) (l : Nat) (o o' : Obj) (hl : w.heap.size ≤ l) (_ : W.heap[l]? = some o) (_ : o.isCells = false) (_ : o.isWalk = false) : KeepR b M B C J W (W.putObj l o') :=
  fun r => (World.putObj_heap_other (by omega)).trans r
theorem keepR_set {b : Nat} {M B C J : Int} {W : World} {p : Addr} (hp : b ≠ p.block) (u : Value) : KeepR b M B C J W (W.setCell p u) := fun r => Blk.far r hp u
theorem keepR_refl {b : Nat} {M B C J : Int} {W : World} : KeepR b M B C J W W := fun r => r
theorem Blk.not_row {W : World} {k : Nat} {t e : TypeId} {cs : Array Value} (h : Blk W k t cs) (hte : t ≠ e) {base size n : Nat} {v : Value} {xs : List Value} (hr : W.ownsRow base e size v n xs) : some k ≠ v.ownBlock := by
  rcases hr.2 with ⟨rfl, _⟩ | ⟨g, cap, cur, rfl, _, hgb, _⟩
  · simp [Value.ownBlock]
  · intro h2
    obtain rfl : k = g := by simpa [Value.ownBlock] using h2
    rw [show W.heap[k]? = _ from h] at hgb
    cases hgb
    exact hte rfl
theorem Blk.new1 (w : World) (o : Obj) (t : TypeId) (cs : Array Value) : Blk ((w.alloc o).alloc (.cells cs t)) (w.heap.size + 1) t cs := by
  have := Blk.new (w.alloc o) t cs
  rwa [World.size_alloc] at this
theorem Blk.new2 (w : World) (o o2 : Obj) (t : TypeId) (cs : Array Value) : Blk (((w.alloc o).alloc o2).alloc (.cells cs t)) (w.heap.size + 1 + 1) t cs := by
  have := Blk.new1 (w.alloc o) o2 t cs
  rwa [World.size_alloc] at this
theorem Blk.new3 (w : World) (o o2 o3 : Obj) (t : TypeId) (cs : Array Value) : Blk ((((w.alloc o).alloc o2).alloc o3).alloc (.cells cs t)) (w.heap.size + 1 + 1 + 1) t cs := by
  have := Blk.new2 (w.alloc o) o2 o3 t cs
  rwa [World.size_alloc] at this
theorem Blk.int_eq {w : World} {k : Nat} {t : TypeId} {q : IntKind} {a b : Int} (h : Blk w k t #[.int q a]) (e : b = a) : Blk w k t #[.int q b] := e ▸ h
theorem ownsRow_g {a b : World} {base : Nat} {e : TypeId} {size : Nat} {v : Value} {k : Nat} {xs : List Value} (h : a.ownsRow base e size v k xs) (g : G a b) : b.ownsRow base e size v k xs := by
  obtain ⟨hl, hv⟩ := h
  refine ⟨hl, ?_⟩
  rcases hv with hv | ⟨r, cap, cur, hv, hb, hg, hr⟩
  · exact .inl hv
  · exact .inr ⟨r, cap, cur, hv, hb, Blk.g (show Blk a r e cur from hg) g, hr⟩
theorem ownsRow_base {a : World} {base base' : Nat} {e : TypeId} {size : Nat} {v : Value} {k : Nat} {xs : List Value} (h : a.ownsRow base e size v k xs) (hb : base' ≤ base) : a.ownsRow base' e size v k xs := by
  obtain ⟨hl, hv⟩ := h
  refine ⟨hl, ?_⟩
  rcases hv with hv | ⟨r, cap, cur, hv, hb2, hg, hr⟩
  · exact .inl hv
  · exact .inr ⟨r, cap, cur, hv, Nat.le_trans hb hb2, hg, hr⟩
/-- at a caller's return the block for the rounds' deferred calls is turned once more -/
theorem G.put {w W : World} (h : G w W) {D : Nat} {o : Obj} (o' : Obj) (hD : w.heap.size ≤ D) (hK : W.heap[D]? = some o) : G w (W.putObj D o') :=
  Below.grown h (grownBy_putObj' W D o') h.size (fun r e => by cases e; exact hD)
theorem Blk.put {W : World} {k : Nat} {t : TypeId} {cs : Array Value} (h : Blk W k t cs) {D : Nat} {o : Obj} (o' : Obj) (hK : W.heap[D]? = some o) (hc : o.isCells = false) : Blk (W.putObj D o') k t cs :=
  Blk.grown h (grownBy_putObj' W D o') (fun e => by cases e; rw [show W.heap[k]? = _ from h] at hK; cases hK; cases hc)
end Go.Proofs.Ytabgddiecddbhaa
