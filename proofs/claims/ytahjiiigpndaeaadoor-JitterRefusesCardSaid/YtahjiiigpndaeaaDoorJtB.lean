/-
  Package jitter: the iterator of the jitters, and its contract.
-/
import Derived.RangeFuncNested
import Derived.RangeFuncBound
import Derived.RangeFuncCalls
import Derived.RangeFuncLeaves
import Derived.Shelf.Abstract
import Derived.Shelf.RegionOpen
import Derived.WalkKit
import Derived.OwnWalkIn
import Derived.TacticsInMore
import Derived.LoopNIn
import Derived.LoopIn
import Derived.Deep.RegionHeld3
import Derived.Test.YtahjiiigpndaeaaDoorJtR
import Derived.Test.YtahjiiigpndaeaaDoorBlkM
set_option linter.unusedVariables false
set_option linter.unusedSimpArgs false
namespace Go.Proofs.YtahjiiigpndaeaaDoor
open Go.RowKit Go.Shelf
attribute [local go_sem] Oper.semAt_some

/-- what the iterator reads: its six boxes, the table of mix -/
structure JAt (W : World) (kn ke ks km kd kL : Nat) (a : Int) (s : ByteArray) (d n L E : Int) : Prop where
  xn : Blk W kn 3 #[.int .i64 n]
  xe : Blk W ke 23 #[.int .i64 E]
  xs : Blk W ks 22 #[.int .u64 a]
  xm : Blk W km 9 #[.string s]
  xd : Blk W kd 2 #[.int .i64 d]
  xL : Blk W kL 2 #[.int .i64 L]
  tb : Tab W
theorem Tab.grownO {W W' : World} (h : Tab W) {r : Option Nat} (g : W.grownBy W' r) (nT : some 0 ≠ r) : Tab W' := by
  obtain ⟨hz, c0, c1, c2, c3, c4, c5⟩ := h
  have hb : ∀ i v, W.cell? ⟨0, i, none⟩ = some v → W'.cell? ⟨0, i, none⟩ = some v := fun i v hc => g.cell hc (by simpa using nT)
  exact ⟨by have := g.size; omega, hb _ _ c0, hb _ _ c1, hb _ _ c2, hb _ _ c3, hb _ _ c4, hb _ _ c5⟩
section
variable {W W' : World} {kn ke ks km kd kL : Nat} {a : Int} {s : ByteArray} {d n L E : Int}
theorem JAt.g (h : JAt W kn ke ks km kd kL a s d n L E) (g : G W W') : JAt W' kn ke ks km kd kL a s d n L E :=
  ⟨h.xn.g g, h.xe.g g, h.xs.g g, h.xm.g g, h.xd.g g, h.xL.g g, h.tb.g g⟩
/-- the blocks that the iterator reads -/
def JAt.in_ (kn ke ks km kd kL : Nat) (r : Nat) : Prop := r = kn ∨ r = ke ∨ r = ks ∨ r = km ∨ r = kd ∨ r = kL ∨ r = 0
theorem JAt.grown (h : JAt W kn ke ks km kd kL a s d n L E) {r : Option Nat} (g : W.grownBy W' r) (hr : ∀ k, r = some k → ¬ JAt.in_ kn ke ks km kd kL k) : JAt W' kn ke ks km kd kL a s d n L E :=
  ⟨h.xn.grown g (fun e => hr _ e.symm (.inl rfl)), h.xe.grown g (fun e => hr _ e.symm (.inr (.inl rfl))), h.xs.grown g (fun e => hr _ e.symm (.inr (.inr (.inl rfl)))), h.xm.grown g (fun e => hr _ e.symm (.inr (.inr (.inr (.inl rfl))))), h.xd.grown g (fun e => hr _ e.symm (.inr (.inr (.inr (.inr (.inl rfl)))))), h.xL.grown g (fun e => hr _ e.symm (.inr (.inr (.inr (.inr (.inr (.inl rfl))))))), h.tb.grownO g (fun e => hr _ e.symm (.inr (.inr (.inr (.inr (.inr (.inr rfl)))))))⟩
theorem JAt.lt (h : JAt W kn ke ks km kd kL a s d n L E) {r : Nat} (hr : JAt.in_ kn ke ks km kd kL r) : r < W.heap.size := by
  have h1 := h.xn.lt
  have h2 := h.xe.lt
  have h3 := h.xs.lt
  have h4 := h.xm.lt
  have h5 := h.xd.lt
  have h6 := h.xL.lt
  have h7 := h.tb.1
  rcases hr with rfl | rfl | rfl | rfl | rfl | rfl | rfl <;> omega
end
def encJ (a : Int) (s : ByteArray) (d L : Int) (k : Nat) : Array Value := #[.int .i64 ((k : Int) + 1), .int .i64 (jw a s d ((k : Int) + 1) L)]
def KeepJ (kn ke ks km kd kL : Nat) (a : Int) (s : ByteArray) (d n L E : Int) (W W' : World) : Prop := JAt W kn ke ks km kd kL a s d n L E → JAt W' kn ke ks km kd kL a s d n L E
/-- the error of a list of jitters, and how many there are -/
def jnE (s : ByteArray) (d n L : Int) : Int := jcE s d (decide (n < 0) || decide (21 < n)) L
def jnN (s : ByteArray) (d n L : Int) : Nat := if jnE s d n L = 0 then n.toNat else 0
theorem jnE_bd (s : ByteArray) (d n L : Int) : jnE s d n L = 0 ∨ jnE s d n L = 2 ∨ jnE s d n L = 14 ∨ jnE s d n L = 15 := jcE_bd _ _ _ _
theorem jnE_ok {s : ByteArray} {d n L : Int} (h : jnE s d n L = 0) : s.size ≤ 24 ∧ (0 ≤ d ∧ d ≤ 253402300799) ∧ (0 ≤ n ∧ n ≤ 21) ∧ 0 ≤ L ∧ L ≤ 68719476736 := by
  obtain ⟨h1, h2, h3, h4⟩ := jcE_ok h
  simp at h3
  exact ⟨nmB_size h1, h2, by omega, h4⟩
theorem jnN_ok {s : ByteArray} {d n L : Int} (h : jnE s d n L = 0) : jnN s d n L = n.toNat := if_pos h
theorem jnN_no {s : ByteArray} {d n L : Int} (h : jnE s d n L ≠ 0) : jnN s d n L = 0 := if_neg h
theorem jnN_bd (s : ByteArray) (d n L : Int) : jnN s d n L ≤ 21 := by
  by_cases h : jnE s d n L = 0
  · have := jnE_ok h
    rw [jnN_ok h]
    omega
  · rw [jnN_no h]
    omega
set_option maxHeartbeats 400000 in
theorem all_any (a : Int) (s : ByteArray) (d n L : Int) (w : World) (ht : Tab w) :
    Calls Tryd.prog 40 #[.int .u64 a, .string s, .int .i64 d, .int .i64 n, .int .i64 L] w fun e w' => ∃ kn ke ks km kd kL, e = .returned (.tuple #[.func (.func 53) #[] #[.pointer (some ⟨kn, 0, none⟩), .pointer (some ⟨ke, 0, none⟩), .pointer (some ⟨ks, 0, none⟩), .pointer (some ⟨km, 0, none⟩), .pointer (some ⟨kd, 0, none⟩), .pointer (some ⟨kL, 0, none⟩)], .int .i64 (jnE s d n L)]) ∧ JAt w' kn ke ks km kd kL a s d n L (jnE s d n L) ∧ G w w' := by
  have HT := Lib.hid ht
  obtain ⟨E, hE⟩ : ∃ E, jnE s d n L = E := ⟨_, rfl⟩
  have HE : Hid (jcE s d (decide (n < 0) || decide (21 < n)) L = E) := Lib.hid hE
  rw [hE]
  clear hE ht
  rcases Int.lt_or_le n 0 with hlt | hle
  all_goals (
    go_enter Tryd.func40, Tryd.ntmps40
    go_wp2_with fail
    go_at_call 38
    refine (checked_any s d _ L _).mono ?_
    rintro e w1 ⟨rfl, g1⟩
    first | rw [HE.out] | (rw [show (true : Bool) = (decide (n < 0) || decide (21 < n)) by simp [hlt]]; rw [HE.out])
    have b0 : Blk w1 w.heap.size 22 #[.int .u64 a] := (((((Blk.new w _ _).alloc _).alloc _).alloc _).alloc _).g g1
    have b1 : Blk w1 (w.heap.size + 1) 9 #[.string s] := ((((Blk.new1 w _ _ _).alloc _).alloc _).alloc _).g g1
    have b2 : Blk w1 (w.heap.size + 1 + 1) 2 #[.int .i64 d] := (((Blk.new2 w _ _ _ _).alloc _).alloc _).g g1
    have b3 : Blk w1 (w.heap.size + 1 + 1 + 1) 3 #[.int .i64 n] := ((Blk.new3 w _ _ _ _ _).alloc _).g g1
    have b4 : Blk w1 (w.heap.size + 1 + 1 + 1 + 1) 2 #[.int .i64 L] := (Blk.new4 w _ _ _ _ _ _).g g1
    have b5 : Blk (w1.alloc (.cells #[.int .i64 E] 23)) w1.heap.size 23 #[.int .i64 E] := Blk.new w1 _ _
    have gW : G w (w1.alloc (.cells #[.int .i64 E] 23)) := (((((((G.refl w).alloc _).alloc _).alloc _).alloc _).alloc _).trans g1).alloc _
    have hJ : JAt (w1.alloc (.cells #[.int .i64 E] 23)) (w.heap.size + 1 + 1 + 1) w1.heap.size w.heap.size (w.heap.size + 1) (w.heap.size + 1 + 1) (w.heap.size + 1 + 1 + 1 + 1) a s d n L E :=
      ⟨b3.alloc _, b5, b0.alloc _, b1.alloc _, b2.alloc _, b4.alloc _, HT.out.g gW⟩
    have c5 := b5.cell 0
    clear b0 b1 b2 b3 b4 g1
    go_wp2_with fail
    go_quiet (fail)
    go_wp2_with fail
    go_ret2
    exact ⟨_, _, _, _, _, _, rfl, hJ.g ((G.refl _).drewN _), gW.drewN _⟩)
theorem range_prefix {i m : Nat} (h : i ≤ m) : List.range i <+: List.range m :=
  List.prefix_iff_eq_take.2 (by simp [List.take_range, Nat.min_eq_left h])
set_option maxRecDepth 100000 in
set_option maxHeartbeats 2000000 in
theorem all_stops (N : Nat) (hN1 : 1 ≤ N) (kn ke ks km kd kL : Nat) (a : Int) (s : ByteArray) (d n L : Int) (ha : u64 a) (hn0 : -9223372036854775808 ≤ n) (hn1 : n ≤ 9223372036854775807) (w : World) (hb : JAt w kn ke ks km kd kL a s d n L (jnE s d n L)) :
    SeqStopsK Fence.wide N Tryd.prog 53 #[.pointer (some ⟨kn, 0, none⟩), .pointer (some ⟨ke, 0, none⟩), .pointer (some ⟨ks, 0, none⟩), .pointer (some ⟨km, 0, none⟩), .pointer (some ⟨kd, 0, none⟩), .pointer (some ⟨kL, 0, none⟩)] (encJ a s d L) (KeepJ kn ke ks km kd kL a s d n L (jnE s d n L)) (fun xs => xs = List.range (jnN s d n L)) (fun pre => pre <+: List.range (jnN s d n L)) (jnN s d n L) w := fun lq J1 Jx W hW hJ hJx hY h0 => by
  have hbW : JAt W kn ke ks km kd kL a s d n L (jnE s d n L) := hb.g hW
  refine callsIn_of_wp Tryd.func53 rfl trivial ?_ rfl
  simp only [Tryd.ntmps53, List.size_toArray, List.length_cons, List.length_nil, Nat.reduceAdd, Nat.reduceSub, Array.replicate_succ, Array.replicate_zero, List.push_toArray, List.append_toArray, List.nil_append, List.cons_append]
  by_cases hE : jnE s d n L = 0
  · obtain ⟨hsz, ⟨hd0, hd1⟩, ⟨hq0, hq1⟩, hL0, hL1⟩ := jnE_ok hE
    have hN := jnN_ok hE
    generalize jnE s d n L = E at *
    subst hE
    generalize jnN s d n L = m at *
    obtain ⟨q, rfl⟩ : ∃ q : Nat, n = q := ⟨n.toNat, by omega⟩
    rw [Int.toNat_natCast] at hN
    subst hN
    gi_wp2
    gi_loopw [8] (fun kv wr => ∃ i : Nat, i ≤ m ∧ kv = .int .i64 ((i : Int) + 1) ∧ J1 (List.range i) wr ∧ JAt wr kn ke ks km kd kL a s d m L 0) (fun kv _ => m + 1 - (intOf kv).toNat)
    case atStart => exact ⟨0, by omega, rfl, h0, hbW⟩
    case round =>
      obtain ⟨i, hi, rfl, hJi, hbi⟩ := hrel
      clear hbW h0
      have cn : wr.cell? ⟨kn, 0, none⟩ = some (.int .i64 m) := hbi.xn.cell 0
      by_cases hlt : i < m
      · have ce : wr.cell? ⟨ke, 0, none⟩ = some (.int .i64 0) := hbi.xe.cell 0
        have cs : wr.cell? ⟨ks, 0, none⟩ = some (.int .u64 a) := hbi.xs.cell 0
        have cm : wr.cell? ⟨km, 0, none⟩ = some (.string s) := hbi.xm.cell 0
        have cd : wr.cell? ⟨kd, 0, none⟩ = some (.int .i64 d) := hbi.xd.cell 0
        have cL : wr.cell? ⟨kL, 0, none⟩ = some (.int .i64 L) := hbi.xL.cell 0
        have hil : (i : Int) + 1 ≤ m := by omega
        gi_wp2
        refine ⟨trivial, callsIn_wide.2 ?_⟩
        refine (one_jit a s d ((i : Int) + 1) L ha hsz hd0 hd1 (by omega) (by omega) hL0 hL1 _ hbi.tb).mono ?_
        rintro e v1 ⟨rfl, g5⟩
        have hb3 := hbi.g g5
        obtain ⟨fn, tmps, assign, body, hy, hR⟩ := hY (List.range i) i _ (hJ _ _ _ none hJi (grown_of_G g5 none) (fun _ e => by cases e)) (by simp; omega)
        dsimp only [encJ] at hy
        generalize jw a s d ((i : Int) + 1) L = q at *
        clear cn ce cs cm cd cL
        gi_wp2
        refine hR.mono ?_
        rintro e W3 (⟨rfl, hJ3, hk3⟩ | ⟨rfl, hJx3⟩)
        · have hb4 := hk3 hb3
          gi_wp2
          go_roundw
          case rel => exact ⟨i + 1, by omega, by go_num, by rw [List.range_succ]; exact hJ3, hb4⟩
          case measure => simp [intOf]; omega
        · gi_wp2
          refine bodyPost_ret (results_none rfl _ _ _) rfl ?_
          refine ⟨⟨_, rfl⟩, .inr ⟨List.range i ++ [i], ?_, hJx3⟩⟩
          rw [← List.range_succ]
          exact range_prefix hlt
      · obtain rfl : i = m := by omega
        have hil : decide ((i : Int) + 1 ≤ i) = false := by simp; omega
        gi_wp2
        go_end0
        exact ⟨⟨_, rfl⟩, .inl ⟨List.range i, rfl, hJi⟩⟩
  · have hN := jnN_no hE
    generalize jnE s d n L = E at *
    generalize jnN s d n L = m at *
    subst hN
    have h0e : (E == 0) = false := by simpa using hE
    have cn : W.cell? ⟨kn, 0, none⟩ = some (.int .i64 n) := hbW.xn.cell 0
    have ce : W.cell? ⟨ke, 0, none⟩ = some (.int .i64 E) := hbW.xe.cell 0
    rcases Int.lt_or_le n 1 with hlt | hle
    all_goals (
      gi_wp2
      gi_loopw [8] (fun kv wr => kv = .int .i64 1 ∧ J1 [] wr ∧ JAt wr kn ke ks km kd kL a s d n L E) (fun kv _ => 0)
      case atStart => exact ⟨rfl, h0, hbW⟩
      case round =>
        obtain ⟨rfl, hJi, hbi⟩ := hrel
        have cn2 : wr.cell? ⟨kn, 0, none⟩ = some (.int .i64 n) := hbi.xn.cell 0
        have ce2 : wr.cell? ⟨ke, 0, none⟩ = some (.int .i64 E) := hbi.xe.cell 0
        gi_wp2
        go_end0
        first | exact ⟨⟨_, rfl⟩, .inl ⟨[], rfl, hJi⟩⟩ | exact ⟨⟨_, rfl⟩, .inl hJi⟩ | exact .inl hJi)
end Go.Proofs.YtahjiiigpndaeaaDoor
