/-
  Package hash and the document's side: a byte, a text.
-/
import Derived.Test.YtahjiiigpndaeaaDoorLst
import Derived.Test.YtahjiiigpndaeaaDoorMixM
import Derived.Laws.IdiomStrings
import Derived.Laws.BytesArg
import Derived.Laws.Strings
set_option linter.unusedVariables false
set_option linter.unusedSimpArgs false
namespace Go.Proofs.YtahjiiigpndaeaaDoor
open Go.RowKit

/-- a hash goes on with a byte, with a list of bytes -/
def hbI (h b : Int) : Int := IntKind.u64.wrap (bits BinOp.xor IntKind.u64 h b * 1099511628211)
def hS (h : Int) (l : List Int) : Int := l.foldl hbI h
/-- the bytes of a text -/
def bs (s : ByteArray) : List Int := s.data.toList.map (fun b => (b.toNat : Int))
def at_ (l : List Int) (k : Nat) : Int := l[k]?.getD 0
theorem bs_len (s : ByteArray) : (bs s).length = s.size := by simp [bs]
theorem bs_at {s : ByteArray} {k : Nat} (h : k < s.size) : ((s[k]'h).toNat : Int) = at_ (bs s) k := by
  have h' : k < s.data.toList.length := by simpa using h
  unfold at_ bs
  rw [List.getElem?_map, List.getElem?_eq_getElem h']
  rfl
theorem bs_bd (s : ByteArray) (k : Nat) : 0 ≤ at_ (bs s) k ∧ at_ (bs s) k < 256 := by
  rcases Nat.lt_or_ge k s.size with h | h
  · rw [← bs_at h]; have := (s[k]'h).toNat_lt; omega
  · unfold at_; rw [List.getElem?_eq_none (by rw [bs_len]; exact h)]; simp
theorem hbI_bd (h b : Int) : 0 ≤ hbI h b ∧ hbI h b < 18446744073709551616 := by unfold hbI; rw [IntKind.wrap_u64]; omega
def u64 (h : Int) : Prop := 0 ≤ h ∧ h < 18446744073709551616
theorem hS_bd {h : Int} (hh : u64 h) (l : List Int) : u64 (hS h l) := by
  induction l generalizing h with
  | nil => exact hh
  | cons b l ih => exact ih (hbI_bd h b)
theorem hS_take (h : Int) (l : List Int) {k : Nat} (hk : k < l.length) : hS h (l.take (k + 1)) = hbI (hS h (l.take k)) (at_ l k) := by
  unfold hS at_
  rw [List.take_add_one, List.foldl_append, List.getElem?_eq_getElem hk]
  rfl
theorem hS_all (h : Int) (l : List Int) : hS h (l.take l.length) = hS h l := by rw [List.take_length]
set_option maxHeartbeats 400000 in
theorem one_any (h b : Int) (hh : u64 h) (b0 : 0 ≤ b) (b1 : b < 256) (w : World) :
    Calls Tryd.prog 62 #[.int .u64 h, .int .u8 b] w fun e w' => e = .returned (.int .u64 (hbI h b)) ∧ w = w' := by
  obtain ⟨h0, h1⟩ := hh
  go_enter Tryd.func62, Tryd.ntmps62
  go_wp2_with fail
  go_ret
  exact ⟨rfl, rfl⟩
def HAt (w : World) (k : Nat) (h : Int) : Prop := Blk w k 83 #[.int .u64 h]
set_option maxHeartbeats 400000 in
theorem put_any (k : Nat) (h b : Int) (hh : u64 h) (b0 : 0 ≤ b) (b1 : b < 256) (w : World) (hb : HAt w k h) :
    Calls Tryd.prog 57 #[.pointer (some ⟨k, 0, none⟩), .int .u8 b] w fun e w' => e = .returned (.tuple #[]) ∧ w.grownBy w' (some k) ∧ HAt w' k (hbI h b) := by
  obtain ⟨h0, h1⟩ := hh
  have c0 : w.cell? ⟨k, 0, none⟩ = some (.int .u64 h) := Blk.cell hb 0
  have f0 := Blk.frozen hb 0
  go_enter Tryd.func57, Tryd.ntmps57
  go_wp2_with fail
  go_end0
  exact ⟨rfl, grown_setCell (grown_of_G (G.refl _) _) 0 _, Blk.set_ hb 0 _⟩
set_option maxHeartbeats 1000000 in
theorem text_any (k : Nat) (h : Int) (s : ByteArray) (hh : u64 h) (hsz : s.size < 9223372036854775807) (w : World) (hb : HAt w k h) :
    Calls Tryd.prog 47 #[.pointer (some ⟨k, 0, none⟩), .string s] w fun e w' => e = .returned (.tuple #[]) ∧ w.grownBy w' (some k) ∧ HAt w' k (hS h (bs s)) := by
  have hcv : ∀ w : World, (convert 9 60 (.string s)).run Tryd.prog w = .ok (.slice (some ⟨w.heap.size, 0, none⟩) s.size (grownCap w s.size 0 5)) (w.drew.alloc (.cells (bytesRow s (grownCap w s.size 0 5)) 5 ((bytesRow s (grownCap w s.size 0 5)).size, (bytesRow s (grownCap w s.size 0 5)).size + 1))) :=
    fun w => run_bytes_of_string w _ _ _ s Tryd.underlying9 Tryd.underlying60 Tryd.underlying5
  go_enter Tryd.func47, Tryd.ntmps47
  go_wp2_with fail
  clear hcv
  obtain ⟨hz, hget⟩ : ∃ hz : 0 < 1, ∀ j, j < s.size → World.cell? ((w.alloc (.cells (bytesRow s (grownCap w s.size 0 5)) 5 ((bytesRow s (grownCap w s.size 0 5)).size, (bytesRow s (grownCap w s.size 0 5)).size + 1))).drew) ⟨w.heap.size, j, none⟩ = some (.int .u8 (at_ (bs s) j)) := ⟨by decide, fun j hj => by
    have h1 : (World.heap ((w.alloc (.cells (bytesRow s (grownCap w s.size 0 5)) 5 ((bytesRow s (grownCap w s.size 0 5)).size, (bytesRow s (grownCap w s.size 0 5)).size + 1))).drew))[w.heap.size]? = some (.cells (bytesRow s (grownCap w s.size 0 5)) 5 ((bytesRow s (grownCap w s.size 0 5)).size, (bytesRow s (grownCap w s.size 0 5)).size + 1)) := heap_alloc_new w _
    rw [cell_of_row _ _ j _ _ _ h1, bytesRow_at s _ j hj, ← bs_at hj]
    rfl⟩
  have gW : G w ((w.alloc (.cells (bytesRow s (grownCap w s.size 0 5)) 5 ((bytesRow s (grownCap w s.size 0 5)).size, (bytesRow s (grownCap w s.size 0 5)).size + 1))).drew) := ((G.refl w).alloc _).drew
  have hbW : HAt _ k h := Blk.g hb gW
  have hkl := Blk.lt hb
  have HG := Lib.hid hget
  clear hget hz
  generalize grownCap w s.size 0 5 = cap at *
  generalize (w.alloc (.cells (bytesRow s cap) 5 ((bytesRow s cap).size, (bytesRow s cap).size + 1))).drew = w0 at *
  obtain ⟨kB, hkB⟩ : ∃ kB, w.heap.size = kB := ⟨_, rfl⟩
  rw [hkB] at HG hkl ⊢
  go_loopw [12] (fun iv wr => ∃ j : Nat, j ≤ s.size ∧ iv = .int .i64 j ∧ w0.grownBy wr (some k) ∧ HAt wr k (hS h ((bs s).take j))) (fun iv _ => s.size - (intOf iv).toNat)
  case atStart => exact ⟨0, by omega, rfl, grown_of_G (G.refl _) _, hbW⟩
  case round =>
    obtain ⟨j, hj, rfl, hg, hH⟩ := hrel
    by_cases hlt : j < s.size
    · have d0 : wr.cell? ⟨kB, j, none⟩ = some (.int .u8 (at_ (bs s) j)) := hg.cell (HG.out j hlt) (fun e => by simp at e; omega)
      have hji : (j : Int) < s.size := by omega
      have HB := Lib.hid (hS_bd hh ((bs s).take j))
      have HS := Lib.hid (hS_take h (bs s) (by rw [bs_len]; exact hlt))
      have HD := Lib.hid (bs_bd s j)
      generalize at_ (bs s) j = x at *
      go_wp2_with fail
      go_at_call 57
      refine (put_any k _ _ HB.out HD.out.1 HD.out.2 _ hH).mono ?_
      rintro e w1 ⟨rfl, g1, hH1⟩
      rw [← HS.out] at hH1
      go_wp2_with fail
      go_roundw
      case rel => exact ⟨j + 1, by omega, by go_num, grown_trans hg g1, hH1⟩
      case measure => simp [intOf]; omega
    · obtain rfl : j = s.size := by omega
      have HA : Hid (hS h ((bs s).take s.size) = hS h (bs s)) := Lib.hid (by rw [← bs_len]; exact hS_all _ _)
      rw [HA.out] at hH
      go_wp2_with fail
      go_end0
      exact ⟨rfl, grown_trans (grown_of_G gW _) hg, hH⟩
set_option maxHeartbeats 1000000 in
theorem rmore_any (h : Int) (s : ByteArray) (hh : u64 h) (hsz : s.size < 9223372036854775807) (w : World) :
    Calls Tryd.prog 63 #[.int .u64 h, .string s] w fun e w' => e = .returned (.int .u64 (hS h (bs s))) ∧ G w w' := by
  go_enter Tryd.func63, Tryd.ntmps63
  go_wp2_with fail
  go_loopw [0, 5] (fun hv iv wr => ∃ k : Nat, k ≤ s.size ∧ iv = .int .i64 k ∧ hv = .int .u64 (hS h ((bs s).take k)) ∧ G w wr) (fun _ iv _ => s.size - (intOf iv).toNat)
  case atStart => exact ⟨0, by omega, rfl, rfl, G.refl _⟩
  case round =>
    obtain ⟨k, hk, rfl, rfl, hg⟩ := hrel
    by_cases hlt : k < s.size
    · have hki : (k : Int) < s.size := by omega
      have HB := Lib.hid (hS_bd hh ((bs s).take k))
      have HS := Lib.hid (hS_take h (bs s) (by rw [bs_len]; exact hlt))
      have HT := Lib.hid (bs_at hlt)
      have HD := Lib.hid (bs_bd s k)
      go_wp2_with fail
      rw [HT.out]
      go_at_call 62
      refine (one_any _ _ HB.out HD.out.1 HD.out.2 _).mono ?_
      rintro e w1 ⟨rfl, rfl⟩
      rw [← HS.out]
      go_wp2_with fail
      go_roundw
      case rel => exact ⟨k + 1, by omega, by go_num, rfl, hg⟩
      case measure => simp [intOf]; omega
    · obtain rfl : k = s.size := by omega
      have HA : Hid (hS h ((bs s).take s.size) = hS h (bs s)) := Lib.hid (by rw [← bs_len]; exact hS_all _ _)
      rw [HA.out]
      go_wp2_with fail
      go_ret
      exact ⟨rfl, hg⟩
end Go.Proofs.YtahjiiigpndaeaaDoor
