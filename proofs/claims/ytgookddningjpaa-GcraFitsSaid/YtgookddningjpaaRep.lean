/-
  slices.Repeat at []int64: what it returns reads as some list; how long it is.
-/
import Derived.Lib.Mul64
import Derived.Laws.CopyOwn
import Derived.Deep.RegionLaw
import Derived.Test.YtgookddningjpaaGcW
set_option linter.unusedVariables false
set_option linter.unusedSimpArgs false
namespace Go.Proofs.Ytgookddningjpaa
open Go.RowKit

/-! ### bits.Mul64: both halves -/
theorem maskN (a : Nat) (ha : a < 18446744073709551616) : bits .and .u64 (a : Int) 4294967295 = ((a % 4294967296 : Nat) : Int) := by
  have h := bits_and_u64_nat a 4294967295 ha (by omega)
  rw [show a &&& 4294967295 = a % 4294967296 from Nat.and_two_pow_sub_one_eq_mod a 32] at h
  exact h
theorem divN (a : Nat) : (a : Int) / 4294967296 = ((a / 4294967296 : Nat) : Int) := by omega
theorem mulN (a b : Nat) : (a : Int) * (b : Int) = ((a * b : Nat) : Int) := (Int.natCast_mul a b).symm
theorem addN (a b : Nat) : (a : Int) + (b : Int) = ((a + b : Nat) : Int) := (Int.natCast_add a b).symm
theorem wrapN (a : Nat) (ha : a < 18446744073709551616) : IntKind.u64.wrap (a : Int) = (a : Int) := by rw [IntKind.wrap_u64]; omega
theorem wrapM (a : Nat) : IntKind.u64.wrap (a : Int) = ((a % 18446744073709551616 : Nat) : Int) := by rw [IntKind.wrap_u64]; omega

set_option maxHeartbeats 1000000 in
theorem mul64_nat (x y : Nat) (hx : x < 18446744073709551616) (hy : y < 18446744073709551616) (w : World) :
    Calls Try.prog 56 #[.int .u64 x, .int .u64 y] w fun e w' => e = .returned (.tuple #[.int .u64 ((x * y / 18446744073709551616 : Nat) : Int), .int .u64 ((x * y % 18446744073709551616 : Nat) : Int)]) ∧ w = w' := by
  obtain ⟨bd, bt, bw, hhi⟩ := Lib.mul64_hi x y hx hy
  have ba := Lib.half_mul_le (a := x / 4294967296) (b := y / 4294967296) (by omega) (by omega)
  have bb := Lib.half_mul_le (a := x / 4294967296) (b := y % 4294967296) (by omega) (by omega)
  have bc := Lib.half_mul_le (a := x % 4294967296) (b := y / 4294967296) (by omega) (by omega)
  have ba' : x / 4294967296 * (y / 4294967296) < 18446744073709551616 := by omega
  have bb' : x / 4294967296 * (y % 4294967296) < 18446744073709551616 := by omega
  have bc' : x % 4294967296 * (y / 4294967296) < 18446744073709551616 := by omega
  have bh1 : x / 4294967296 * (y / 4294967296) + (x / 4294967296 * (y % 4294967296) + x % 4294967296 * (y % 4294967296) / 4294967296) / 4294967296 < 18446744073709551616 := by omega
  have bh : x / 4294967296 * (y / 4294967296) + (x / 4294967296 * (y % 4294967296) + x % 4294967296 * (y % 4294967296) / 4294967296) / 4294967296 + ((x / 4294967296 * (y % 4294967296) + x % 4294967296 * (y % 4294967296) / 4294967296) % 4294967296 + x % 4294967296 * (y / 4294967296)) / 4294967296 < 18446744073709551616 := by omega
  go_enter Try.func56, Try.ntmps56
  go_wp2
  simp only [maskN x hx, maskN y hy, divN, mulN, addN, wrapN _ bd, wrapN _ bb', wrapN _ bt, maskN _ bt, wrapN _ bc', wrapN _ bw, wrapN _ ba', wrapN _ bh1, wrapN _ bh, wrapM (x * y)]
  rw [hhi]
  go_ret2
  exact ⟨rfl, rfl⟩


set_option maxHeartbeats 1000000 in
theorem mul_nat (x y : Nat) (hx : x < 18446744073709551616) (hy : y < 18446744073709551616) (h : x * y < 18446744073709551616) (w : World) :
    Calls Try.prog 52 #[.int .u64 x, .int .u64 y] w fun e w' => e = .returned (.tuple #[.int .u64 0, .int .u64 ((x * y : Nat) : Int)]) ∧ w = w' := by
  have HM := Lib.hid (fun w => mul64_nat x y hx hy w)
  rw [Nat.div_eq_of_lt h, Nat.mod_eq_of_lt h] at HM
  generalize x * y = z at *
  go_enter Try.func52, Try.ntmps52
  go_wp2_with fail
  go_at_call 56
  refine (HM.out _).mono ?_
  rintro e w1 ⟨rfl, rfl⟩
  go_wp2_with fail
  go_ret2
  exact ⟨rfl, rfl⟩
theorem madeCells_one (z : Value) (n : Nat) : madeCells #[z] (n * 1) = Array.replicate n z := by
  apply Array.ext'
  rw [Nat.mul_one, toList_madeCells_one]; simp
theorem vI_rep (n : Nat) : Array.replicate n (Value.int .i64 0) = (vI .i64 (List.replicate n 0)).toArray := by
  apply Array.ext'
  simp [vI]
theorem make_ints (n : Nat) (hn : n ≤ 281474976710656 / 8) (W : World) :
    (Instr.makeSlice 26 (.int .i64 (n : Int)) (.int .i64 (n : Int))).run Try.prog W = .ok (.slice (some ⟨W.heap.size, 0, none⟩) n n) (W.alloc (.cells (vI .i64 (List.replicate n 0)).toArray 2)) := by
  have hi : (Try.prog.info? 2).map (fun i => (i.zero, i.size, i.bytes)) = some (some (.int .i64 0), 1, 8) := by kernel_rfl
  obtain ⟨i0, hi, hz0, hz1, hz2⟩ := info_parts hi
  have h := run_make (P := Try.prog) W 26 2 i0 (.int .i64 0) Try.underlying26 hi hz0 .i64 .i64 n n (by omega) (Int.le_refl _) (by rw [hz2]; omega) (by omega)
  simp only [Int.toNat_natCast] at h
  rw [h, hz1, show (Value.int IntKind.i64 0).cells = #[Value.int .i64 0] from rfl, madeCells_one, vI_rep]

theorem splice_vI (L cs : List Int) (off : Nat) : splice (vI .i64 L) off (vI .i64 cs) = vI .i64 (splice L off cs) := by
  simp [splice, vI, List.map_take, List.map_drop]
theorem one_vI (L : List Int) : ∀ v ∈ vI .i64 L, v.oneCell' = true := fun u hu => by
  unfold vI at hu
  rw [List.mem_map] at hu
  obtain ⟨x, -, rfl⟩ := hu
  rfl
theorem rd_row {w : World} {g : Nat} {t : TypeId} {L : List Int} {N : Nat} (h : Hid (w.heap[g]? = some (.cells (vI .i64 L).toArray t (0, 0)))) (hN : L.length = N) (hm : N ≤ 9223372036854775807) : Rd w (.slice (some ⟨g, 0, none⟩) N N) (vI .i64 L) := by
  subst hN
  exact Rd.ints (t := t) h.out hm

set_option maxHeartbeats 3200000 in
theorem repeat_any (l : List Int) (c : Nat) (v : Value) (hl : l.length ≤ 300) (hc0 : 1 ≤ c) (hc : c ≤ 400) (w : World) (hR : Rd w v (vI .i64 l)) :
    Calls Try.prog 35 #[v, .int .i64 c] w fun e w' => ∃ v' L, e = .returned v' ∧ L.length ≤ 120000 ∧ Rd w' v' (vI .i64 L) ∧ G w w' := by
  obtain ⟨A, cap, rfl, hcap, hmax, hrd⟩ := hR
  rw [vI_len] at hcap hrd ⊢
  obtain ⟨n, hn⟩ : ∃ n, l.length = n := ⟨_, rfl⟩
  rw [hn] at hcap hrd hl ⊢
  obtain ⟨N, hN⟩ : ∃ N, n * c = N := ⟨_, rfl⟩
  have hN1 : N ≤ 120000 := by
    rw [← hN]
    exact Nat.le_trans (Nat.mul_le_mul hl hc) (by decide)
  have hN2 : n ≤ N := by
    rw [← hN]
    exact Nat.le_mul_of_pos_right n (by omega)
  have HM := Lib.hid (fun w => mul_nat n c (by omega) (by omega) (by omega) w)
  rw [hN] at HM
  have hmk := Lib.hid (fun W => make_ints N (by omega) W)
  have hh := hmk.out
  have HZ : Hid (0 < N → 0 < n) := Lib.hid (fun h => by
    rcases Nat.eq_zero_or_pos n with e | e
    · rw [← hN, e, Nat.zero_mul] at h; exact absurd h (Nat.lt_irrefl 0)
    · exact e)
  obtain ⟨CS, hcs⟩ : ∃ CS, vI .i64 l = CS := ⟨_, rfl⟩
  have HL : Hid (CS.length = n) := Lib.hid (by rw [← hcs, vI_len, hn])
  have HL2 : Hid (CS.length = Nat.min n N) := Lib.hid (by rw [HL.out]; exact (Nat.min_eq_left hN2).symm)
  have HF : Hid (0 + CS.length ≤ (vI .i64 (List.replicate N 0)).length) := Lib.hid (by rw [HL.out, vI_len, List.length_replicate]; omega)
  have HO : Hid (∀ v ∈ CS, v.oneCell' = true) := Lib.hid (by rw [← hcs]; exact one_vI l)
  have HP : Hid (0 < CS.length → ∃ ad, A = some ad ∧ ∀ j u, CS[j]? = some u → (w.alloc (.cells (vI .i64 (List.replicate N 0)).toArray 2)).cell? (ad.add j) = some u) := Lib.hid (fun h => by
    rw [HL.out] at h
    obtain ⟨b, o, e, hc⟩ := hrd h
    refine ⟨⟨b, o, none⟩, e, fun j u hu => ?_⟩
    rw [Go.WideShapes.add_plain]
    rw [← hcs] at hu
    have h1 := hc j u hu
    rw [World.cell?_alloc_lt _ _ _ (World.block_lt_of_cell? w _ h1)]
    exact h1)
  have HG : Hid ((w.alloc (.cells (vI .i64 (List.replicate N 0)).toArray 2)).heap[w.heap.size]? = some (.cells (vI .i64 (List.replicate N 0)).toArray 2 (0, 0))) := Lib.hid (Blk.new w _ _)
  have HB : Hid (Below w.heap.size w (w.alloc (.cells (vI .i64 (List.replicate N 0)).toArray 2))) := Lib.hid ((G.refl w).alloc _)
  have HS : Hid (∃ LL : List Int, LL.length = N ∧ splice (vI .i64 (List.replicate N 0)) 0 CS = vI .i64 LL) := Lib.hid ⟨splice (List.replicate N 0) 0 l, by rw [length_splice _ _ _ (by rw [hn, List.length_replicate]; omega), List.length_replicate], by rw [← hcs, splice_vI]⟩
  clear hN hrd hcs hn
  have hc2 : decide ((c : Int) < 0) = false := by simp
  have hcw : IntKind.u64.wrap (c : Int) = c := by rw [IntKind.wrap_u64]; omega
  have hnw : IntKind.u64.wrap (n : Int) = n := by rw [IntKind.wrap_u64]; omega
  have hNw : IntKind.i64.wrap (N : Int) = N := by rw [IntKind.wrap_i64]; omega
  have hNd : decide (9223372036854775807 < (N : Int)) = false := by simp; omega
  have hNd2 : decide (9223372036854775807 < N) = false := by simp; omega
  have hsz : (Try.prog.info? 2).map (·.size) = some 1 := by kernel_rfl
  go_enter Try.func35, Try.ntmps35
  go_wp2_with fail
  go_at_call 52
  refine (HM.out _).mono ?_
  rintro e w1 ⟨rfl, rfl⟩
  go_wp2_with (refine wpList_copy_splice rfl _ _ 26 26 rfl 2 Try.underlying26 hsz _ _ N N n cap rfl rfl w.heap.size 0 (vI .i64 (List.replicate N 0)) 2 HG.out CS HL2.out (fun h => ⟨rfl, HP.out h⟩) (by have := HF.out; omega) HO.out w.heap.size w HB.out (Nat.le_refl _) ?_; intro w2 hg2 hb2; rw [HL.out])
  obtain ⟨L0, hL0, hS0⟩ := HS.out
  have hgS := hg2.out
  rw [hS0] at hgS
  have hg0 := Lib.hid hgS
  clear hgS hS0 HS hg2 HG HB HP HO HF HL HL2 hmk hh HM
  have hNN : N ≤ 9223372036854775807 := by omega
  go_loopw [8] (fun i wr => ∃ (k : Nat) (LL : List Int), k ≤ N ∧ (n = 0 ∨ 0 < k) ∧ i = .int .i64 k ∧ LL.length = N ∧ Hid (wr.heap[w.heap.size]? = some (.cells (vI .i64 LL).toArray 2 (0, 0))) ∧ G w wr) (fun i _ => N - (intOf i).toNat)
  case atStart => exact ⟨n, L0, hN2, by omega, rfl, hL0, hg0, hb2⟩
  case round =>
    clear hb2 hg0
    obtain ⟨k, LL, hk, hnk, rfl, hLL, hrow, hg⟩ := hrel
    by_cases hlt : k < N
    · have hk0 : 0 < k := by have := HZ.out (by omega); omega
      obtain ⟨m, hm⟩ : ∃ m, Nat.min k (N - k) = m := ⟨_, rfl⟩
      have hm1 : 0 < m ∧ m ≤ k ∧ k + m ≤ N := by
        have e : min k (N - k) = m := hm
        omega
      obtain ⟨hm1, hm2, hm3⟩ := hm1
      obtain ⟨C2, hC2⟩ : ∃ C2, vI .i64 (LL.take m) = C2 := ⟨_, rfl⟩
      have hlen : C2.length = m := by rw [← hC2, vI_len, List.length_take]; omega
      have HL2 : Hid (C2.length = Nat.min k (N - k)) := Lib.hid (by rw [hm, hlen])
      have HL : Hid (C2.length = m) := Lib.hid hlen
      have HF : Hid (k + C2.length ≤ (vI .i64 LL).length) := Lib.hid (by rw [hlen, vI_len, hLL]; exact hm3)
      have HO : Hid (∀ v ∈ C2, v.oneCell' = true) := Lib.hid (by rw [← hC2]; exact one_vI _)
      have HP : Hid (∀ j u, C2[j]? = some u → wr.drew.cell? (Addr.add ⟨w.heap.size, 0, none⟩ j) = some u) := Lib.hid (fun j u hu => by
        rw [Go.WideShapes.add_plain]
        have hj : j < m := by
          rcases Nat.lt_or_ge j m with h | h
          · exact h
          · rw [List.getElem?_eq_none (by rw [hlen]; exact h)] at hu; cases hu
        have hb : Blk wr w.heap.size 2 (vI .i64 LL).toArray := hrow.out
        have hv : (vI .i64 LL)[j]? = some u := by
          rw [← hC2] at hu
          simp only [vI, List.map_take] at hu ⊢
          rw [List.getElem?_take_of_lt hj] at hu
          exact hu
        have := rd_row hrow hLL hNN
        obtain ⟨A1, c1, e1, h1, h2, h3⟩ := this
        rw [vI_len, hLL] at h3
        obtain ⟨b1, o1, e2, h4⟩ := h3 (by omega)
        cases e1
        cases e2
        exact h4 j u hv)
      have HG : Hid (wr.drew.heap[w.heap.size]? = some (.cells (vI .i64 LL).toArray 2 (0, 0))) := Lib.hid hrow.out
      have HB : Hid (Below w.heap.size w wr.drew) := Lib.hid hg.drew
      have HS : Hid (∃ L2 : List Int, L2.length = N ∧ splice (vI .i64 LL) k C2 = vI .i64 L2) := Lib.hid ⟨splice LL k (LL.take m), by rw [length_splice _ _ _ (by rw [List.length_take]; omega), hLL], by rw [← hC2, splice_vI]⟩
      have hki : (k : Int) ≤ N := by omega
      have hki2 : (k : Int) < N := by omega
      have hki0 : (0 : Int) ≤ k := by omega
      have hkw : IntKind.i64.wrap ((k : Int) + m) = (k : Int) + m := by rw [IntKind.wrap_i64]; omega
      clear hlen hC2 hm hrow hg HZ
      go_wp2_with fail
      go_region_law (refine step_copy_splice rfl (.tmp 41) (.tmp 44) 26 26 rfl 2 Try.underlying26 hsz (some ⟨w.heap.size, k, none⟩) (some ⟨w.heap.size, 0, none⟩) (N - k) (N - k) k N (by simp [Act.eval, Act.put] <;> omega) (by simp [Act.eval, Act.put]) w.heap.size k (vI .i64 LL) 2 HG.out C2 HL2.out (fun h => ⟨rfl, ⟨_, rfl, HP.out⟩⟩) HF.out HO.out w.heap.size w HB.out (Nat.le_refl _) ?_; intro w4 hg4 hb4; rw [HL.out])
      simp only [Act.put, List.getElem_toArray, List.getElem_cons_succ, List.getElem_cons_zero, List.setIfInBounds_toArray, List.set_cons_zero, List.set_cons_succ]
      obtain ⟨L2, hL2, hS2⟩ := HS.out
      have hgS := hg4.out
      rw [hS2] at hgS
      have hg5 := Lib.hid hgS
      clear hgS hS2 HS hg4
      go_wp2_with fail
      go_roundw
      case rel => exact ⟨k + m, L2, by omega, by omega, by go_num, hL2, hg5, hb4⟩
      case measure => simp [intOf]; omega
    · obtain rfl : k = N := by omega
      have hR := rd_row hrow hLL hNN
      go_wp2_with fail
      go_ret
      exact ⟨_, LL, rfl, by omega, hR, hg⟩
end Go.Proofs.Ytgookddningjpaa
