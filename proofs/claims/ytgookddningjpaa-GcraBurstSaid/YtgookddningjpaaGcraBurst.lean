/-
  GcraBurst: a new limiter allows just as many launches at one time as Burst says.
-/
import Derived.Test.YtgookddningjpaaTieP
import Derived.Test.YtgookddningjpaaGcT
set_option linter.unusedVariables false
set_option linter.unusedSimpArgs false
namespace Go.Proofs.Ytgookddningjpaa.lawGcraBurst
open Go.ChangeShapes Go.WideShapes Go.ChangeAt Go.RowKit

theorem or_fin : ∀ n : Fin 256, 0 ≤ bits BinOp.or IntKind.u8 ((n.val : Nat) : Int) 1 ∧ bits BinOp.or IntKind.u8 ((n.val : Nat) : Int) 1 ≤ 255 ∧ 1 ≤ bits BinOp.or IntKind.u8 ((n.val : Nat) : Int) 1 % 32 := by decide +kernel
theorem or_fact (t : Int) (h0 : 0 ≤ t) (h1 : t ≤ 255) : 0 ≤ bits BinOp.or IntKind.u8 t 1 ∧ bits BinOp.or IntKind.u8 t 1 ≤ 255 ∧ 1 ≤ bits BinOp.or IntKind.u8 t 1 % 32 := by
  obtain ⟨n, rfl⟩ : ∃ n : Nat, t = n := ⟨t.toNat, by omega⟩
  exact or_fin ⟨n, by omega⟩
def tatB (now T : Int) (m : Nat) : Int := if m = 0 then 0 else now + m * T
def lasB (now : Int) (m : Nat) : Int := if m = 0 then 0 else now
theorem mul_s (m : Nat) (T : Int) : ((m + 1 : Nat) : Int) * T = (m : Int) * T + T := by rw [Int.natCast_succ, Int.add_mul, Int.one_mul]
theorem tatB_next {now T : Int} (hn : 0 ≤ now) (hT : 0 ≤ T) (m : Nat) : max now (tatB now T m) + T = tatB now T (m + 1) := by
  unfold tatB
  rw [if_neg (by omega : ¬ m + 1 = 0), mul_s]
  have : 0 ≤ (m : Int) * T := Int.mul_nonneg (by omega) hT
  split
  · rename_i h; subst h; rw [show ((0 : Nat) : Int) * T = 0 by simp]; omega
  · omega
theorem okB {now T U : Int} (hv : validL T U) (hT : T ≤ 31) (hn : isT now) {m : Nat} (hm : m ≤ 256) : Okl (tatB now T m) (lasB now m) T U := by
  obtain ⟨n0, n1⟩ := hn
  have h0 : 0 ≤ (m : Int) * T := Int.mul_nonneg (by omega) hv.1.1
  have h1 : (m : Int) * T ≤ 256 * 31 := Int.mul_le_mul (by omega) hT hv.1.1 (by omega)
  refine ⟨hv.1, hv.2.1, ?_, ?_⟩
  · unfold tatB; split <;> omega
  · unfold lasB; split <;> omega
theorem chB_ok {now T U : Int} (hn : isT now) {m : Nat} (h : (m : Int) * T ≤ U) : checkE (decide (0 < m)) (tatB now T m) (lasB now m) T U now = 0 := by
  unfold checkE
  rw [if_neg (by simpa using hn), if_neg, if_neg]
  · unfold earlyB tatB
    cases m with
    | zero => simp
    | succ m =>
      rw [if_neg (by omega : ¬ m + 1 = 0), decide_eq_false (p := now < now + ((m + 1 : Nat) : Int) * T - U) (by omega)]
      simp
  · rintro ⟨h1, h2⟩
    unfold lasB at h2
    split at h2
    · rename_i h; rw [h] at h1; simp at h1
    · omega
theorem eaB {now T U : Int} (hT : 0 < T) {m : Nat} (hm : 0 < m) (h : U < (m : Int) * T) : earlyB (decide (0 < m)) (tatB now T m) T U now = true := by
  unfold earlyB tatB
  rw [if_neg (by omega : ¬ m = 0), decide_eq_true hT, decide_eq_true hm, decide_eq_true (p := now < now + (m : Int) * T - U) (by omega)]
  rfl
theorem chB_no {now T U : Int} (hT : 0 < T) (hn : isT now) {m : Nat} (hm : 0 < m) (h : U < (m : Int) * T) : checkE (decide (0 < m)) (tatB now T m) (lasB now m) T U now = 9 := by
  unfold checkE
  rw [if_neg (by simpa using hn), if_neg, if_pos (eaB hT hm h)]
  rintro ⟨h1, h2⟩
  unfold lasB at h2
  rw [if_neg (by omega : ¬ m = 0)] at h2
  omega
theorem nextB {now T U : Int} (hT : 0 < T) {m : Nat} (hm : 0 < m) (h : U < (m : Int) * T) : nextI (decide (0 < m)) (tatB now T m) (lasB now m) T U now = now + (m : Int) * T - U := by
  unfold nextI
  have e : lasB now m = now := by unfold lasB; rw [if_neg (by omega)]
  rw [e, Int.max_self, if_neg (by simp; omega), if_pos (eaB hT hm h)]
  unfold tatB
  rw [if_neg (by omega)]

set_option maxHeartbeats 4000000 in
theorem walk {w : World} (t : Int) (h0 : 0 ≤ t) (h1 : t ≤ 255) (u : Int) (u0 : 0 ≤ u) (u1 : u ≤ 255) (a : Int) (a0 : 0 ≤ a) (a1 : a ≤ 18446744073709551615) :
    Calls Try.prog 7 #[.int .u8 t, .int .u8 u, .int .u64 a] w fun e w' => e = .returned (.bool true) ∧ G w w' := by
  go_enter Try.func7, Try.ntmps7
  go_wp2_with fail
  have hs := or_fact t h0 h1
  generalize bits BinOp.or IntKind.u8 t 1 = s at hs ⊢
  obtain ⟨s0, s1, s2⟩ := hs
  refine (small_any s u s0 s1 u0 u1 _).mono ?_
  rintro e w1 ⟨rfl, g1⟩
  have T0 : 1 ≤ smT s := s2
  have T1 : smT s ≤ 31 := by unfold smT; omega
  have e2 : smU s u = u := by unfold smU; rw [if_neg (by omega)]
  rw [e2]
  have hv : validL (smT s) u := ⟨⟨by omega, by omega⟩, ⟨by omega, by omega⟩, .inl (by omega)⟩
  clear e2 s0 s1 s2 h0 h1
  generalize smT s = T at *
  have hq0 : 0 ≤ u / T := Int.ediv_nonneg u0 (by omega)
  have hq1 : u / T ≤ u := Int.ediv_le_self _ u0
  obtain ⟨n, hn⟩ : ∃ n : Nat, (n : Int) = u / T + 1 := ⟨(u / T + 1).toNat, by omega⟩
  have hlo : ((n : Int) - 1) * T ≤ u := by rw [hn, show u / T + 1 - 1 = u / T by omega]; exact Int.ediv_mul_le u (by omega)
  have hhi : u < (n : Int) * T := by rw [hn]; exact Int.lt_ediv_add_one_mul_self u (by omega)
  have hbI : burstI T u = (n : Int) := by unfold burstI; rw [if_neg (by simpa using hv), if_neg (by omega), hn]
  have hbE : burstE T u = 0 := by unfold burstE; rw [if_neg (by simpa using hv), if_neg (by omega)]
  have n0 : 1 ≤ n := by omega
  have n1 : n ≤ 256 := by omega
  have HV := Lib.hid hv
  have HLO := Lib.hid hlo
  have HHI := Lib.hid hhi
  have HI := Lib.hid hbI
  have HE := Lib.hid hbE
  clear hv hq0 hq1 hn hlo hhi hbI hbE
  go_wp2_with fail
  have hX := Blk.new w1 24 #[.int .i64 T, .int .i64 u]
  have gX : G w1 (w1.alloc (.cells #[.int .i64 T, .int .i64 u] 24)) := (by repeat (first | exact G.refl _ | refine G.alloc ?_ _ | refine G.drewN ?_ _ | refine G.drew ?_ | refine G.trans ?_ (by assumption)))
  have hnow : isT (a % 253402300800) := ⟨by omega, by omega⟩
  have HT := Lib.hid hnow
  clear hnow
  refine (new_yes T u HV.out _).mono ?_
  rintro e w3 ⟨kL, rfl, hkL, g3, hL⟩
  have gW3 : G w w3 := (g1.trans gX).trans g3
  have hkw : w.heap.size ≤ kL := Nat.le_trans (g1.trans gX).size hkL
  have hXL : w1.heap.size < kL := Nat.lt_of_lt_of_le hX.lt hkL
  have hX3 := hX.g g3
  have x0 : w3.cell? ⟨w1.heap.size, 0, none⟩ = some (.int .i64 T) := hX3.cell 0
  have x1 : w3.cell? ⟨w1.heap.size, 1, none⟩ = some (.int .i64 u) := hX3.cell 1
  clear hX gX g1 g3 hkL
  generalize w1.heap.size = kX at hXL hX3 x0 x1 ⊢
  clear w1
  go_wp2_with fail
  refine (burst_any T u _).mono ?_
  rintro e w4 ⟨rfl, g4⟩
  rw [HI.out, HE.out]
  have hX4 := hX3.g g4
  have hL4 := hL.g g4
  have gW4 := gW3.trans g4
  clear x0 x1 hX3 hL gW3 g4
  have c1 : decide ((n : Int) < 1) = false := by simp; omega
  have c2 : decide ((256 : Int) < (n : Int)) = false := by simp; omega
  go_wp2_with fail
  go_loopw [49] (fun iv wr => ∃ m : Nat, m ≤ n ∧ iv = .int .i64 m ∧ w4.grownBy wr (some kL) ∧ Lim wr kL (decide (0 < m)) (tatB (a % 253402300800) T m) (lasB (a % 253402300800) m) T u) (fun iv _ => n - (intOf iv).toNat)
  case atStart => exact ⟨0, by omega, rfl, grown_of_G (G.refl _) _, hL4⟩
  case round =>
    obtain ⟨m, hm, rfl, hg, hLm⟩ := hrel
    clear hL4
    have HO := Lib.hid (okB HV.out T1 HT.out (m := m) (by omega))
    by_cases hlt : m < n
    · have hmul : (m : Int) * T ≤ u := Int.le_trans (Int.mul_le_mul_of_nonneg_right (by omega) (by omega)) HLO.out
      have HC := Lib.hid (chB_ok HT.out hmul)
      have HN := Lib.hid (tatB_next HT.out.1 (by omega : 0 ≤ T) m)
      clear hmul
      generalize a % 253402300800 = now at *
      have hmn : (m : Int) < (n : Int) := by omega
      go_wp2_with fail
      refine (take_ok kL _ _ _ _ _ _ HO.out HC.out _ hLm).mono ?_
      rintro e w5 ⟨rfl, g5, hL5⟩
      rw [HN.out] at hL5
      go_wp2_with fail
      go_roundw
      case rel => exact ⟨m + 1, by omega, by go_num, grown_trans hg g5, (by rw [show decide (0 < m + 1) = true by simp]; exact hL5)⟩
      case measure => simp [intOf]; omega
    · obtain rfl : m = n := by omega
      have x0 : wr.cell? ⟨kX, 0, none⟩ = some (.int .i64 T) := hg.cell (hX4.cell 0) (by intro h; cases h; exact absurd hXL (Nat.lt_irrefl _))
      have x1 : wr.cell? ⟨kX, 1, none⟩ = some (.int .i64 u) := hg.cell (hX4.cell 1) (by intro h; cases h; exact absurd hXL (Nat.lt_irrefl _))
      have HC := Lib.hid (chB_no (by omega : 0 < T) HT.out (by omega) HHI.out)
      have HN := Lib.hid (nextB (now := a % 253402300800) (by omega : 0 < T) (by omega) HHI.out)
      have HB : Hid (tatB (a % 253402300800) T m = a % 253402300800 + (m : Int) * T) := Lib.hid (by unfold tatB; rw [if_neg (by omega)])
      have p0 : 0 ≤ (m : Int) * T := Int.mul_nonneg (by omega) (by omega)
      have p1 : (m : Int) * T ≤ 256 * 31 := Int.mul_le_mul (by omega) T1 (by omega) (by omega)
      have hw : wrap64 ((m : Int) * T) = (m : Int) * T := by unfold wrap64; omega
      obtain ⟨t0, t1⟩ := HT.out
      generalize a % 253402300800 = now at *
      have gW5 := gW4.own hg hkw
      have hXr := Blk.lt hX4
      go_wp2_with fail
      refine (next_any kL _ _ _ _ _ _ HO.out HT.out _ hLm).mono ?_
      rintro e w5 ⟨rfl, g5⟩
      rw [HN.out]
      go_wp2_with fail
      refine (tat_any kL _ _ _ _ _ _ (hLm.g g5)).mono ?_
      rintro e w6 ⟨rfl, g6⟩
      rw [HB.out]
      go_wp2_with fail
      rw [← HB.out]
      refine (take_no kL _ _ _ _ _ _ HO.out (by rw [HC.out]; decide) _ ((hLm.g g5).g g6)).mono ?_
      rintro e w7 ⟨rfl, g7⟩
      rw [HC.out, HB.out]
      have g57 := (g5.trans g6).trans g7
      have y0 : w7.cell? ⟨kX, 0, none⟩ = some (.int .i64 T) := g57.cell (World.block_lt_of_cell? wr _ x0) x0
      have y1 : w7.cell? ⟨kX, 1, none⟩ = some (.int .i64 u) := g57.cell (World.block_lt_of_cell? wr _ x1) x1
      go_wp2_with fail
      refine (works_any _).mono ?_
      rintro e w8 ⟨rfl, g8⟩
      go_wp2_with fail
      go_ret
      exact ⟨rfl, (gW5.trans g57).trans g8⟩
set_option maxHeartbeats 2000000 in
theorem contract (H : Type) (enc : TypeId × Value → H) (W : World) (base : Nat) (args : Array Value) (ds gs : List (DataW H)) (before : List MemPlace)
    (hval : ∀ (j : Nat) t v, Try.f7.params[j]? = some t → args[j]? = some v → Value.okWide Try.prog W .any base t v)
    (hW : DataW.Whole enc Try.prog Try.f7.params.toList Rows.gcraBurstSpec.vars false W args.toList ds gs before) :
    Calls Try.prog 7 args W fun e W' => ∃ v, e = .returned v ∧ Rows.gcraBurstSpec.post enc Try.prog Try.f7 false true false false W args v W' := by
  have hW' := hW
  obtain ⟨p, q, hA0, hV, rfl, hfz, hnd⟩ := hW
  have hA : DataW.TrodAll enc Try.prog W 0 (fun _ => true) true Try.f7.params.toList args.toList ds p := hA0
  rw [Try.params7] at hA hval
  obtain ⟨v0, vs0, d0, ds0, p0, q0, hargs, rfl, rfl, h0, r0⟩ := trodAll_cons hA
  obtain ⟨v1, vs1, d1, ds1, p1, q1, rfl, rfl, rfl, h1, r1⟩ := trodAll_cons r0
  obtain ⟨v2, vs2, d2, ds2, p2, q2, rfl, rfl, rfl, h2, r2⟩ := trodAll_cons r1
  obtain ⟨rfl, rfl, rfl⟩ := trodAll_nil r2
  obtain rfl : args = #[v0, v1, v2] := by cases args; simp_all
  obtain ⟨a0, rfl, rfl, rfl, w0⟩ := open_int Try.underlying5 (hval 0 5 v0 rfl rfl) h0
  simp [Lit.wf, IntKind.min, IntKind.max, IntKind.bits, IntKind.signed] at w0
  obtain ⟨a1, rfl, rfl, rfl, w1⟩ := open_int Try.underlying5 (hval 1 5 v1 rfl rfl) h1
  simp [Lit.wf, IntKind.min, IntKind.max, IntKind.bits, IntKind.signed] at w1
  obtain ⟨a2, rfl, rfl, rfl, w2⟩ := open_int Try.underlying45 (hval 2 45 v2 rfl rfl) h2
  simp [Lit.wf, IntKind.min, IntKind.max, IntKind.bits, IntKind.signed] at w2
  refine (walk (w := W) a0 (by omega) (by omega) a1 (by omega) (by omega) a2 (by omega) (by omega)).mono fun e W' ⟨he, hg⟩ => ?_
  subst he
  exact ⟨_, rfl, law_post laidOut_ (by intro t ht; rw [Try.params7] at ht; simp at ht; rcases ht with rfl | rfl <;> exact ⟨by kernel_rfl, by decide +kernel⟩) hW' rfl rfl (by kernel_rfl) Try.underlying4 hg⟩
set_option maxRecDepth 100000 in
theorem lifted (os : Os) (started : os.Started) (H : Type) (enc : TypeId × Value → H) :
    ReturnsInHanded {} Try.checked os 7 .any (Rows.gcraBurstSpec.pre6 enc Try.prog Try.f7 Rows.gcraBurstRow.domain false) (Rows.gcraBurstSpec.post enc Try.prog Try.f7 false true false false) := by
  refine returnsInHanded_of_change (C := Try.checked) own_ started (by kernel_rfl) Try.func7
    (ChangeSpec.witness6 (enc := enc) (C := Try.checked) false ⟨#[], #[.int .u8 0, .int .u8 0, .int .u64 0], []⟩ 8 (by kernel_rfl) (by kernel_rfl) (by kernel_rfl) (by kernel_rfl)) ?_
  intro W base args ds gs before hval hW _ _
  exact contract H enc W base args ds gs before hval hW
theorem said : Rows.GcraBurstSaid :=
  OpenClaim.holds_of_wide 7 Try.f7 rfl rfl rfl rfl rfl rfl rfl ⟨rfl, rfl, rfl, rfl, rfl⟩ rfl rfl rfl rfl rfl (by kernel_rfl) Try.func7 (by kernel_rfl)
    (of_decide_eq_true (by kernel_rfl)) (by unfold Func.isWrapper; first | (rw [if_pos (by decide +kernel)]; kernel_rfl) | (rw [if_neg (by decide +kernel)]; exact ⟨rfl, rfl⟩))
    (fun os started H enc _ => lifted os started H enc)
#print axioms said
end Go.Proofs.Ytgookddningjpaa.lawGcraBurst
