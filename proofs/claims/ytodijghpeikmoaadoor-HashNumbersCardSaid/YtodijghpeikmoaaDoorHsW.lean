/-
  Package hash: the iterator of the places, and its contract.
-/
import Derived.RangeFuncNested
import Derived.RangeFuncBound
import Derived.RangeFuncCalls
import Derived.RangeFuncLeaves
import Derived.Shelf.Abstract
import Derived.Shelf.RegionOpen
import Derived.WalkKit
import Derived.OwnWalkIn
import Derived.TacticsInMore
import Derived.LoopNIn
import Derived.LoopIn
import Derived.Deep.RegionHeld3
import Derived.Test.YtodijghpeikmoaaDoorHsR
set_option linter.unusedVariables false
set_option linter.unusedSimpArgs false
namespace Go.Proofs.YtodijghpeikmoaaDoor
open Go.RowKit Go.Shelf
attribute [local go_sem] Oper.semAt_some

/-- what the iterator reads: its three boxes, the names, the table of mix -/
structure PlAt (W : World) (b0 b1 b2 : Nat) (A : Option Addr) (c : Nat) (a n : Int) (l : List ByteArray) : Prop where
  x0 : Blk W b0 22 #[.slice A l.length c]
  x1 : Blk W b1 23 #[.int .u64 a]
  x2 : Blk W b2 23 #[.int .u64 n]
  rd : ∀ k, k < l.length → ∃ b o, A = some ⟨b, o, none⟩ ∧ W.cell? ⟨b, o + k, none⟩ = some (.string (l[k]?.getD ByteArray.empty))
  tb : Tab W
theorem PlAt.g {W W' : World} {b0 b1 b2 : Nat} {A : Option Addr} {c : Nat} {a n : Int} {l : List ByteArray} (h : PlAt W b0 b1 b2 A c a n l) (g : G W W') : PlAt W' b0 b1 b2 A c a n l :=
  ⟨h.x0.g g, h.x1.g g, h.x2.g g, fun k hk => by obtain ⟨b, o, e, d⟩ := h.rd k hk; exact ⟨b, o, e, g.cell (World.block_lt_of_cell? W _ d) d⟩, h.tb.g g⟩
theorem PlAt.grown {W W' : World} {b0 b1 b2 : Nat} {A : Option Addr} {c : Nat} {a n : Int} {l : List ByteArray} (h : PlAt W b0 b1 b2 A c a n l) {r : Option Nat} (g : W.grownBy W' r)
    (n0 : some b0 ≠ r) (n1 : some b1 ≠ r) (n2 : some b2 ≠ r) (nA : ∀ k o, 0 < l.length → A = some ⟨k, o, none⟩ → some k ≠ r) (nT : some 0 ≠ r) : PlAt W' b0 b1 b2 A c a n l := by
  refine ⟨h.x0.grown g n0, h.x1.grown g n1, h.x2.grown g n2, fun k hk => ?_, ?_⟩
  · obtain ⟨b, o, e, d⟩ := h.rd k hk
    exact ⟨b, o, e, g.cell d (by simpa using nA b o (by omega) e)⟩
  · obtain ⟨hz, c0, c1, c2, c3, c4, c5⟩ := h.tb
    have hb : ∀ i v, W.cell? ⟨0, i, none⟩ = some v → W'.cell? ⟨0, i, none⟩ = some v := fun i v hc => g.cell hc (by simpa using nT)
    exact ⟨by have := g.size; omega, hb _ _ c0, hb _ _ c1, hb _ _ c2, hb _ _ c3, hb _ _ c4, hb _ _ c5⟩
def encP (a n : Int) (s : ByteArray) : Array Value := #[.int .i64 (placeI a n s)]
def KeepP (b0 b1 b2 : Nat) (A : Option Addr) (c : Nat) (a n : Int) (l : List ByteArray) (W W' : World) : Prop := PlAt W b0 b1 b2 A c a n l → PlAt W' b0 b1 b2 A c a n l
theorem take_snoc (l : List ByteArray) {k : Nat} (hk : k < l.length) : l.take (k + 1) = l.take k ++ [l[k]?.getD ByteArray.empty] := by
  rw [List.take_add_one, List.getElem?_eq_getElem hk]; rfl
set_option maxRecDepth 100000 in
set_option maxHeartbeats 2000000 in
theorem places_stops (N : Nat) (hN1 : 1 ≤ N) (b0 b1 b2 : Nat) (A : Option Addr) (c : Nat) (a n : Int) (l : List ByteArray) (hok : okS l) (hn : 0 < n) (hn2 : n ≤ 68719476736) (hl : l.length ≤ 64) (hc : l.length ≤ c) (hc2 : c ≤ 9223372036854775807) (ha : u64 a) (w : World) (hb : PlAt w b0 b1 b2 A c a n l) :
    SeqStopsK Fence.wide N Tryd.prog 40 #[.pointer (some ⟨b0, 0, none⟩), .pointer (some ⟨b1, 0, none⟩), .pointer (some ⟨b2, 0, none⟩)] (encP a n) (KeepP b0 b1 b2 A c a n l) (fun xs => xs = l) (fun pre => pre <+: l) l.length w := fun lq J1 Jx W hW hJ hJx hY h0 => by
  have hbW : PlAt W b0 b1 b2 A c a n l := hb.g hW
  have HK := Lib.hid hok
  refine callsIn_of_wp Tryd.func40 rfl trivial ?_ rfl
  simp only [Tryd.ntmps40, List.size_toArray, List.length_cons, List.length_nil, Nat.reduceAdd, Nat.reduceSub, Array.replicate_succ, Array.replicate_zero, List.push_toArray, List.append_toArray, List.nil_append, List.cons_append]
  have c0 : W.cell? ⟨b0, 0, none⟩ = some (.slice A l.length c) := hbW.x0.cell 0
  gi_wp2
  gi_loopw [11] (fun kv wr => ∃ i : Nat, i ≤ l.length ∧ kv = .int .i64 i ∧ J1 (l.take i) wr ∧ PlAt wr b0 b1 b2 A c a n l) (fun kv _ => l.length - (intOf kv).toNat)
  case atStart => exact ⟨0, by omega, rfl, h0, hbW⟩
  case round =>
    obtain ⟨i, hi, rfl, hJi, hbi⟩ := hrel
    clear hbW h0 c0
    by_cases hlt : i < l.length
    · have HS := Lib.hid (take_snoc l hlt)
      have HZ := Lib.hid (HK.out i)
      obtain ⟨p0, p1⟩ := placeI_bd a n (l[i]?.getD ByteArray.empty) hn
      have c1 : wr.cell? ⟨b1, 0, none⟩ = some (.int .u64 a) := hbi.x1.cell 0
      have c2 : wr.cell? ⟨b2, 0, none⟩ = some (.int .u64 n) := hbi.x2.cell 0
      have hil : (i : Int) < l.length := by omega
      obtain ⟨b, o, rfl, d0⟩ := hbi.rd i hlt
      generalize hs : l[i]?.getD ByteArray.empty = s at HS HZ p0 p1 d0
      gi_wp2
      refine wpIn_wide.2 ?_
      have hw : -9223372036854775808 ≤ wrap64 a ∧ wrap64 a ≤ 9223372036854775807 := by unfold wrap64; omega
      have HT := hbi.tb
      obtain ⟨ha0, ha1⟩ := ha
      have hwr : IntKind.i64.wrap a = wrap64 a := by rw [IntKind.wrap_i64]; unfold wrap64; omega
      go_region_held3 (fun w' => w'.cell? ⟨b1, 0, none⟩ = some (.int .u64 a) ∧ w'.cell? ⟨b2, 0, none⟩ = some (.int .u64 n)) (first | exact ⟨c1, c2⟩ | exact ⟨(hbi.x1.g g5).cell 0, (hbi.x2.g g5).cell 0⟩)
        (first
          | (go_at_call 21; refine (sum_any s HZ.out _).mono ?_; rintro e v1 ⟨rfl, g5⟩; replace g5 : G wr v1 := (G.refl wr).drew.trans g5)
          | (go_at_call 22; refine (num_any _ _ (sumS_bd s) hw.1 hw.2 _).mono ?_; rintro e v2 ⟨rfl, g6⟩; replace g5 : G wr v2 := g5.trans g6)
          | (go_at_call 24; refine (mix_any _ (hN_bd (sumS_bd s) _).1 (hN_bd (sumS_bd s) _).2 _ (HT.g g5)).mono ?_; rintro e v3 ⟨rfl, g6⟩; replace g5 : G wr v3 := g5.trans g6)
          | (go_at_call 23; refine (below_any _ n (mixI_u _).1 (mixI_u _).2 hn (by omega) _).mono ?_; rintro e v4 ⟨rfl, rfl⟩))
      have HQ : hiI (mixI (hN (sumS s) (wrap64 a))) n = placeI a n s := rfl
      rw [HQ]
      have hb3 := hbi.g g5
      obtain ⟨fn, tmps, assign, body, hy, hR⟩ := hY (l.take i) (l[i]?.getD ByteArray.empty) _ (hJ _ _ _ none hJi (grown_of_G g5 none) (fun _ e => by cases e)) (by simp; omega)
      dsimp only [encP] at hy
      rw [hs] at hy hR
      generalize placeI a n s = q at *
      clear HQ hwr hw
      gi_wp2
      refine hR.mono ?_
      rintro e W3 (⟨rfl, hJ3, hk3⟩ | ⟨rfl, hJx3⟩)
      · have hb4 := hk3 hb3
        gi_wp2
        go_roundw
        case rel => exact ⟨i + 1, by omega, by go_num, by rw [HS.out]; exact hJ3, hb4⟩
        case measure => simp [intOf]; omega
      · gi_wp2
        refine bodyPost_ret (results_none rfl _ _ _) rfl ?_
        refine ⟨⟨_, rfl⟩, .inr ⟨l.take i ++ [s], ?_, hJx3⟩⟩
        rw [← HS.out]
        exact List.take_prefix _ _
    · obtain rfl : i = l.length := by omega
      rw [List.take_length] at hJi
      gi_wp2
      go_end0
      exact ⟨⟨_, rfl⟩, .inl ⟨l, rfl, hJi⟩⟩
end Go.Proofs.YtodijghpeikmoaaDoor
