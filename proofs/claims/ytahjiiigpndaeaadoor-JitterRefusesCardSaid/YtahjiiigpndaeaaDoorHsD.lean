/-
  Package hash and the document's side: numbers, More, Sum, Number, Key.
-/
import Derived.Test.YtahjiiigpndaeaaDoorHsC
set_option linter.unusedVariables false
set_option linter.unusedSimpArgs false
namespace Go.Proofs.YtahjiiigpndaeaaDoor
open Go.RowKit

/-- the bytes of a number -/
def nbI (n : Int) (i : Nat) : Int := IntKind.u64.wrap n / 2 ^ (8 * i) % 256
def nbs (n : Int) : List Int := (List.range 8).map (nbI n)
theorem nbs_len (n : Int) : (nbs n).length = 8 := by simp [nbs]
theorem nbs_at (n : Int) {i : Nat} (h : i < 8) : at_ (nbs n) i = nbI n i := by unfold at_ nbs; simp [h]
theorem nbI_bd (n : Int) (i : Nat) : 0 ≤ nbI n i ∧ nbI n i < 256 := by unfold nbI; omega
theorem nbs_bd (n : Int) : ∀ x ∈ nbs n, 0 ≤ x ∧ x < 256 := by
  intro x hx
  unfold nbs at hx
  rw [List.mem_map] at hx
  obtain ⟨i, -, rfl⟩ := hx
  exact nbI_bd n i
theorem bs_str (xs : List Int) (h : ∀ x ∈ xs, 0 ≤ x ∧ x < 256) : bs (strOfNums xs) = xs := by
  unfold bs strOfNums
  simp only [List.map_map]
  have : ∀ x ∈ xs, ((fun b : UInt8 => (b.toNat : Int)) ∘ fun n : Int => UInt8.ofNat n.toNat) x = x := by
    intro x hx
    obtain ⟨h0, h1⟩ := h x hx
    simp only [Function.comp]
    rw [UInt8.toNat_ofNat']
    omega
  rw [List.map_congr_left this]
  simp
theorem str_size (xs : List Int) : (strOfNums xs).size = xs.length := by
  unfold strOfNums; show (Array.size _) = _; simp
/-- a hash goes on with a number -/
def hN (h n : Int) : Int := hS h (nbs n)
theorem hN_bd {h : Int} (hh : u64 h) (n : Int) : u64 (hN h n) := hS_bd hh _
set_option maxHeartbeats 1000000 in
theorem rnumber_any (h n : Int) (hh : u64 h) (n0 : -9223372036854775808 ≤ n) (n1 : n ≤ 9223372036854775807) (w : World) :
    Calls Tryd.prog 60 #[.int .u64 h, .int .i64 n] w fun e w' => e = .returned (.int .u64 (hN h n)) ∧ G w w' := by
  go_enter Tryd.func60, Tryd.ntmps60
  go_wp2_with fail
  go_loopw [0, 5] (fun hv iv wr => ∃ i : Nat, i ≤ 8 ∧ iv = .int .i64 i ∧ hv = .int .u64 (hS h ((nbs n).take i)) ∧ G w wr) (fun _ iv _ => 8 - (intOf iv).toNat)
  case atStart => exact ⟨0, by omega, rfl, rfl, G.refl _⟩
  case round =>
    obtain ⟨i, hi, rfl, rfl, hg⟩ := hrel
    by_cases hlt : i < 8
    · have hii : (i : Int) < 8 := by omega
      have HB := Lib.hid (hS_bd hh ((nbs n).take i))
      have HS := Lib.hid (hS_take h (nbs n) (by rw [nbs_len]; exact hlt))
      have HT := Lib.hid (nbs_at n hlt)
      have HD := Lib.hid (nbI_bd n i)
      go_wp2_with fail
      rw [show IntKind.u64.wrap n / 2 ^ (8 * i) % 256 = nbI n i from rfl]
      go_at_call 62
      refine (one_any _ _ HB.out HD.out.1 HD.out.2 _).mono ?_
      rintro e w1 ⟨rfl, rfl⟩
      rw [← HT.out, ← HS.out]
      go_wp2_with fail
      go_roundw
      case rel => exact ⟨i + 1, by omega, by go_num, rfl, hg⟩
      case measure => simp [intOf]; omega
    · obtain rfl : i = 8 := by omega
      have HA : Hid (hS h ((nbs n).take 8) = hN h n) := Lib.hid (by rw [← nbs_len n]; exact hS_all _ _)
      rw [HA.out]
      go_wp2_with fail
      go_ret
      exact ⟨rfl, hg⟩
set_option maxHeartbeats 1000000 in
theorem number_any (k : Nat) (h n : Int) (hh : u64 h) (n0 : -9223372036854775808 ≤ n) (n1 : n ≤ 9223372036854775807) (w : World) (hb : HAt w k h) :
    Calls Tryd.prog 48 #[.pointer (some ⟨k, 0, none⟩), .int .i64 n] w fun e w' => e = .returned (.tuple #[]) ∧ w.grownBy w' (some k) ∧ HAt w' k (hN h n) := by
  have hkl := Blk.lt hb
  go_enter Tryd.func48, Tryd.ntmps48
  have hA := Blk.new w 93 #[.int .u8 0, .int .u8 0, .int .u8 0, .int .u8 0, .int .u8 0, .int .u8 0, .int .u8 0, .int .u8 0]
  have gA : G w (w.alloc (.cells #[.int .u8 0, .int .u8 0, .int .u8 0, .int .u8 0, .int .u8 0, .int .u8 0, .int .u8 0, .int .u8 0] 93)) := (G.refl w).alloc _
  go_wp2_with fail
  generalize w.alloc (.cells #[.int .u8 0, .int .u8 0, .int .u8 0, .int .u8 0, .int .u8 0, .int .u8 0, .int .u8 0, .int .u8 0] 93) = w0 at *
  go_loopw [6] (fun iv wr => ∃ (i : Nat) (cs : Array Value), i ≤ 8 ∧ iv = .int .i64 i ∧ G w wr ∧ Blk wr w.heap.size 93 cs ∧ cs.size = 8 ∧ Hid (∀ j, j < i → cs[j]? = some (.int .u8 (nbI n j)))) (fun iv _ => 8 - (intOf iv).toNat)
  case atStart => exact ⟨0, _, by omega, rfl, gA, hA, rfl, Lib.hid (fun j hj => by omega)⟩
  case round =>
    clear hA gA
    obtain ⟨i, cs, hi, rfl, hg, hB, hsz, HC⟩ := hrel
    by_cases hlt : i < 8
    · have hii : (i : Int) < 8 := by omega
      have c0 : wr.cell? ⟨w.heap.size, i, none⟩ = some (cs[i]'(by omega)) := (hB.cell i).trans (Array.getElem?_eq_getElem _)
      have f0 := hB.frozen i
      have hB2 := hB.set_ i (.int .u8 (nbI n i))
      have HC2 : Hid (∀ j, j < i + 1 → (cs.setIfInBounds i (.int .u8 (nbI n i)))[j]? = some (.int .u8 (nbI n j))) := Lib.hid (fun j hj => by
        by_cases e : i = j
        · subst e; rw [Array.getElem?_setIfInBounds]; simp; omega
        · rw [Array.getElem?_setIfInBounds, if_neg e]; exact HC.out j (by omega))
      generalize cs[i]'(by omega) = x0 at *
      go_wp2_with fail
      go_roundw
      case rel => exact ⟨i + 1, _, by omega, by go_num, hg.setCell (p := ⟨w.heap.size, i, none⟩) (Nat.le_refl _) _, hB2, by simpa using hsz, HC2⟩
      case measure => simp [intOf]; omega
    · obtain rfl : i = 8 := by omega
      have hcv := run_convert_bytes_arg (P := Tryd.prog) wr 60 5 Tryd.underlying60 Tryd.underlying5 w.heap.size 0 8 8 (nbs n) (nbs_len n) (fun j hj => by
        rw [Nat.zero_add, hB.cell j, HC.out j hj]
        congr 2
        rw [← nbs_at n hj]
        unfold at_; simp [List.getD]) 9 Tryd.underlying9
      have hH := Blk.g hb hg
      have HBS := Lib.hid (bs_str (nbs n) (nbs_bd n))
      have hss := (str_size (nbs n)).trans (nbs_len n)
      go_wp2_with fail
      clear hcv
      go_at_call 47
      refine (text_any k h (strOfNums (nbs n)) hh (by omega) _ hH).mono ?_
      rintro e w2 ⟨rfl, g2, hH2⟩
      rw [HBS.out] at hH2
      go_wp2_with fail
      go_end0
      exact ⟨rfl, grown_trans (grown_of_G hg _) g2, hH2⟩
/-- the hash of a text -/
def sumS (s : ByteArray) : Int := hS 14695981039346656037 (bs s)
theorem beg_bd : u64 14695981039346656037 := ⟨by decide, by decide⟩
theorem sumS_bd (s : ByteArray) : u64 (sumS s) := hS_bd beg_bd _
set_option maxHeartbeats 1000000 in
theorem rsum_any (s : ByteArray) (hsz : s.size < 9223372036854775807) (w : World) :
    Calls Tryd.prog 61 #[.string s] w fun e w' => e = .returned (.int .u64 (sumS s)) ∧ G w w' := by
  go_enter Tryd.func61, Tryd.ntmps61
  go_wp2_with fail
  go_at_call 63
  refine (rmore_any _ s beg_bd hsz _).mono ?_
  rintro e w1 ⟨rfl, g1⟩
  go_wp2_with fail
  go_ret
  exact ⟨rfl, g1⟩
end Go.Proofs.YtahjiiigpndaeaaDoor
