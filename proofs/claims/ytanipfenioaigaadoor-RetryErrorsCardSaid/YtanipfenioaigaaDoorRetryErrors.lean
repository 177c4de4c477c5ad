/-
  RetryErrors: errors in their order, and the greatest policies at the end of time.
  Conditions: none beyond the row's own (the table of package mix as the program's text lays it).
-/
import Derived.Test.YtanipfenioaigaaDoorTieD
import Derived.Test.YtanipfenioaigaaDoorRtX
set_option linter.unusedVariables false
set_option linter.unusedSimpArgs false
namespace Go.Proofs.YtanipfenioaigaaDoor.lawRetryErrors
open Go.ChangeShapes Go.WideShapes Go.ChangeAt Go.RowKit

/-- the cells of the table of cases -/
def tabE : Array Value := #[.int .i64 21, .int .i64 1, .int .i64 1, .int .i64 0, .string ⟨#[]⟩, .int .i64 (-1), .int .i64 (-1), .int .i64 0, .int .i64 16, .int .i64 16, .int .i64 16, .int .i64 3, .int .i64 10, .int .i64 25, .int .i64 0, .string ⟨#[]⟩, .int .i64 (-1), .int .i64 (-1), .int .i64 0, .int .i64 15, .int .i64 15, .int .i64 14, .int .i64 3, .int .i64 10, .int .i64 25, .int .i64 0, .string ⟨#[97, 32, 98]⟩, .int .i64 0, .int .i64 0, .int .i64 1, .int .i64 15, .int .i64 15, .int .i64 0, .int .i64 3, .int .i64 10, .int .i64 25, .int .i64 0, .string ⟨#[97]⟩, .int .i64 (-1), .int .i64 0, .int .i64 0, .int .i64 14, .int .i64 14, .int .i64 3, .int .i64 3, .int .i64 10, .int .i64 25, .int .i64 0, .string ⟨#[97]⟩, .int .i64 0, .int .i64 253402300800, .int .i64 0, .int .i64 14, .int .i64 14, .int .i64 14, .int .i64 3, .int .i64 10, .int .i64 25, .int .i64 0, .string ⟨#[97]⟩, .int .i64 0, .int .i64 0, .int .i64 0, .int .i64 3, .int .i64 2, .int .i64 3, .int .i64 3, .int .i64 10, .int .i64 25, .int .i64 0, .string ⟨#[97]⟩, .int .i64 0, .int .i64 0, .int .i64 5, .int .i64 3, .int .i64 2, .int .i64 3, .int .i64 3, .int .i64 10, .int .i64 25, .int .i64 0, .string ⟨#[97]⟩, .int .i64 0, .int .i64 0, .int .i64 4, .int .i64 0, .int .i64 2, .int .i64 3, .int .i64 0, .int .i64 0, .int .i64 0, .int .i64 0, .string ⟨#[97]⟩, .int .i64 0, .int .i64 0, .int .i64 1, .int .i64 0, .int .i64 12, .int .i64 3]
/-- a case, and what its errors are -/
structure CaseE (k : Nat) (M B C J : Int) (s : ByteArray) (d t n e f g : Int) : Prop where
  h0 : tabE[k * 11]? = some (.int .i64 M)
  h1 : tabE[k * 11 + 1]? = some (.int .i64 B)
  h2 : tabE[k * 11 + 2]? = some (.int .i64 C)
  h3 : tabE[k * 11 + 3]? = some (.int .i64 J)
  h4 : tabE[k * 11 + 4]? = some (.string s)
  h5 : tabE[k * 11 + 5]? = some (.int .i64 d)
  h6 : tabE[k * 11 + 6]? = some (.int .i64 t)
  h7 : tabE[k * 11 + 7]? = some (.int .i64 n)
  h8 : tabE[k * 11 + 8]? = some (.int .i64 e)
  h9 : tabE[k * 11 + 9]? = some (.int .i64 f)
  h10 : tabE[k * 11 + 10]? = some (.int .i64 g)
  e1 : nxE M B C J s d n t = e
  e2 : chE M B C J s d t [-1] = f
  e3 : erE M B C J n t = g
  b : -9223372036854775808 ≤ n ∧ n ≤ 9223372036854775807
theorem caseE (k : Nat) (hk : k < 9) : ∃ M B C J s d t n e f g, CaseE k M B C J s d t n e f g :=
  match k, hk with
  | 0, _ => ⟨21, 1, 1, 0, ⟨#[]⟩, (-1), (-1), 0, 16, 16, 16, ⟨rfl, rfl, rfl, rfl, rfl, rfl, rfl, rfl, rfl, rfl, rfl, by decide +kernel, by decide +kernel, by decide +kernel, by decide⟩⟩
  | 1, _ => ⟨3, 10, 25, 0, ⟨#[]⟩, (-1), (-1), 0, 15, 15, 14, ⟨rfl, rfl, rfl, rfl, rfl, rfl, rfl, rfl, rfl, rfl, rfl, by decide +kernel, by decide +kernel, by decide +kernel, by decide⟩⟩
  | 2, _ => ⟨3, 10, 25, 0, ⟨#[97, 32, 98]⟩, 0, 0, 1, 15, 15, 0, ⟨rfl, rfl, rfl, rfl, rfl, rfl, rfl, rfl, rfl, rfl, rfl, by decide +kernel, by decide +kernel, by decide +kernel, by decide⟩⟩
  | 3, _ => ⟨3, 10, 25, 0, ⟨#[97]⟩, (-1), 0, 0, 14, 14, 3, ⟨rfl, rfl, rfl, rfl, rfl, rfl, rfl, rfl, rfl, rfl, rfl, by decide +kernel, by decide +kernel, by decide +kernel, by decide⟩⟩
  | 4, _ => ⟨3, 10, 25, 0, ⟨#[97]⟩, 0, 253402300800, 0, 14, 14, 14, ⟨rfl, rfl, rfl, rfl, rfl, rfl, rfl, rfl, rfl, rfl, rfl, by decide +kernel, by decide +kernel, by decide +kernel, by decide⟩⟩
  | 5, _ => ⟨3, 10, 25, 0, ⟨#[97]⟩, 0, 0, 0, 3, 2, 3, ⟨rfl, rfl, rfl, rfl, rfl, rfl, rfl, rfl, rfl, rfl, rfl, by decide +kernel, by decide +kernel, by decide +kernel, by decide⟩⟩
  | 6, _ => ⟨3, 10, 25, 0, ⟨#[97]⟩, 0, 0, 5, 3, 2, 3, ⟨rfl, rfl, rfl, rfl, rfl, rfl, rfl, rfl, rfl, rfl, rfl, by decide +kernel, by decide +kernel, by decide +kernel, by decide⟩⟩
  | 7, _ => ⟨3, 10, 25, 0, ⟨#[97]⟩, 0, 0, 4, 0, 2, 3, ⟨rfl, rfl, rfl, rfl, rfl, rfl, rfl, rfl, rfl, rfl, rfl, by decide +kernel, by decide +kernel, by decide +kernel, by decide⟩⟩
  | 8, _ => ⟨0, 0, 0, 0, ⟨#[97]⟩, 0, 0, 1, 0, 12, 3, ⟨rfl, rfl, rfl, rfl, rfl, rfl, rfl, rfl, rfl, rfl, rfl, by decide +kernel, by decide +kernel, by decide +kernel, by decide⟩⟩
  | n + 9, h => absurd h (by omega)
theorem l1 : ltE 21 1 1 0 (-1) (-1) (-1) = 16 := by decide +kernel
theorem l2 : ltE 3 10 25 0 (-1) (-1) (-1) = 14 := by decide +kernel
theorem l3 : ltE 3 10 25 0 0 0 68719476737 = 2 := by decide +kernel
theorem l4 : ltE 3 10 25 0 0 (-1) 0 = 2 := by decide +kernel
theorem l5 : ltV 20 68719476736 68719476736 68719476736 253402300799 68719476736 68719476736 = 5888399393131 := by decide +kernel
theorem l6 : ltE 20 68719476736 68719476736 68719476736 253402300799 68719476736 68719476736 = 0 := by decide +kernel
theorem l7 : lfE 21 1 1 0 0 = 16 := by decide +kernel
theorem l8 : lfE 3 10 25 0 0 = 3 := by decide +kernel
theorem u1 : u64 1 := ⟨by decide, by decide⟩
set_option maxRecDepth 20000 in
set_option maxHeartbeats 16000000 in
theorem walk (w : World) (ht : Tab w) :
    Calls Tryd.prog 11 #[] w fun e w' => e = .returned (.bool true) ∧ G w w' := by
  have HT := Lib.hid ht
  clear ht
  go_enter Tryd.func11, Tryd.ntmps11
  go_wp2_with fail
  go_at_call 30
  refine (plain_any _).mono ?_
  rintro e0 w1 ⟨rfl, gA⟩
  have b0 : ((w1.alloc (.cells #[.int .i64 21, .int .i64 1, .int .i64 1, .int .i64 0] 23)).alloc (.cells #[.int .i64 3, .int .i64 10, .int .i64 25, .int .i64 0] 23)).cell? ⟨w1.heap.size, 0, none⟩ = some (.int .i64 21) := ((Blk.new w1 _ _).alloc _).cell 0
  have b1 : ((w1.alloc (.cells #[.int .i64 21, .int .i64 1, .int .i64 1, .int .i64 0] 23)).alloc (.cells #[.int .i64 3, .int .i64 10, .int .i64 25, .int .i64 0] 23)).cell? ⟨w1.heap.size, 1, none⟩ = some (.int .i64 1) := ((Blk.new w1 _ _).alloc _).cell 1
  have b2 : ((w1.alloc (.cells #[.int .i64 21, .int .i64 1, .int .i64 1, .int .i64 0] 23)).alloc (.cells #[.int .i64 3, .int .i64 10, .int .i64 25, .int .i64 0] 23)).cell? ⟨w1.heap.size, 2, none⟩ = some (.int .i64 1) := ((Blk.new w1 _ _).alloc _).cell 2
  have b3 : ((w1.alloc (.cells #[.int .i64 21, .int .i64 1, .int .i64 1, .int .i64 0] 23)).alloc (.cells #[.int .i64 3, .int .i64 10, .int .i64 25, .int .i64 0] 23)).cell? ⟨w1.heap.size, 3, none⟩ = some (.int .i64 0) := ((Blk.new w1 _ _).alloc _).cell 3
  have g0 : ((w1.alloc (.cells #[.int .i64 21, .int .i64 1, .int .i64 1, .int .i64 0] 23)).alloc (.cells #[.int .i64 3, .int .i64 10, .int .i64 25, .int .i64 0] 23)).cell? ⟨w1.heap.size + 1, 0, none⟩ = some (.int .i64 3) := (Blk.new1 w1 _ _ _).cell 0
  have g1 : ((w1.alloc (.cells #[.int .i64 21, .int .i64 1, .int .i64 1, .int .i64 0] 23)).alloc (.cells #[.int .i64 3, .int .i64 10, .int .i64 25, .int .i64 0] 23)).cell? ⟨w1.heap.size + 1, 1, none⟩ = some (.int .i64 10) := (Blk.new1 w1 _ _ _).cell 1
  have g2 : ((w1.alloc (.cells #[.int .i64 21, .int .i64 1, .int .i64 1, .int .i64 0] 23)).alloc (.cells #[.int .i64 3, .int .i64 10, .int .i64 25, .int .i64 0] 23)).cell? ⟨w1.heap.size + 1, 2, none⟩ = some (.int .i64 25) := (Blk.new1 w1 _ _ _).cell 2
  have g3 : ((w1.alloc (.cells #[.int .i64 21, .int .i64 1, .int .i64 1, .int .i64 0] 23)).alloc (.cells #[.int .i64 3, .int .i64 10, .int .i64 25, .int .i64 0] 23)).cell? ⟨w1.heap.size + 1, 3, none⟩ = some (.int .i64 0) := (Blk.new1 w1 _ _ _).cell 3
  have hBd : Blk ((w1.alloc (.cells #[.int .i64 21, .int .i64 1, .int .i64 1, .int .i64 0] 23)).alloc (.cells #[.int .i64 3, .int .i64 10, .int .i64 25, .int .i64 0] 23)) w1.heap.size 23 #[.int .i64 21, .int .i64 1, .int .i64 1, .int .i64 0] := (Blk.new w1 _ _).alloc _
  have hGd : Blk ((w1.alloc (.cells #[.int .i64 21, .int .i64 1, .int .i64 1, .int .i64 0] 23)).alloc (.cells #[.int .i64 3, .int .i64 10, .int .i64 25, .int .i64 0] 23)) (w1.heap.size + 1) 23 #[.int .i64 3, .int .i64 10, .int .i64 25, .int .i64 0] := Blk.new1 w1 _ _ _
  replace gA := (gA.alloc (.cells #[.int .i64 21, .int .i64 1, .int .i64 1, .int .i64 0] 23)).alloc (.cells #[.int .i64 3, .int .i64 10, .int .i64 25, .int .i64 0] 23)
  have hk2 : ((w1.alloc (.cells #[.int .i64 21, .int .i64 1, .int .i64 1, .int .i64 0] 23)).alloc (.cells #[.int .i64 3, .int .i64 10, .int .i64 25, .int .i64 0] 23)).heap.size = w1.heap.size + 1 + 1 := by simp
  go_wp2_with fail
  clear b0 b1 b2 b3 g0 g1 g2 g3
  generalize hkB : w1.heap.size = kB at *
  generalize ((w1.alloc (.cells #[.int .i64 21, .int .i64 1, .int .i64 1, .int .i64 0] 23)).alloc (.cells #[.int .i64 3, .int .i64 10, .int .i64 25, .int .i64 0] 23)) = w2 at *
  have hS := Blk.new w2 62 tabE
  rw [hk2] at hS
  replace gA := gA.alloc (.cells tabE 62)
  replace hBd := hBd.alloc (.cells tabE 62)
  replace hGd := hGd.alloc (.cells tabE 62)
  rw [show (#[.int .i64 21, .int .i64 1, .int .i64 1, .int .i64 0, .string ⟨#[]⟩, .int .i64 (-1), .int .i64 (-1), .int .i64 0, .int .i64 16, .int .i64 16, .int .i64 16, .int .i64 3, .int .i64 10, .int .i64 25, .int .i64 0, .string ⟨#[]⟩, .int .i64 (-1), .int .i64 (-1), .int .i64 0, .int .i64 15, .int .i64 15, .int .i64 14, .int .i64 3, .int .i64 10, .int .i64 25, .int .i64 0, .string ⟨#[97, 32, 98]⟩, .int .i64 0, .int .i64 0, .int .i64 1, .int .i64 15, .int .i64 15, .int .i64 0, .int .i64 3, .int .i64 10, .int .i64 25, .int .i64 0, .string ⟨#[97]⟩, .int .i64 (-1), .int .i64 0, .int .i64 0, .int .i64 14, .int .i64 14, .int .i64 3, .int .i64 3, .int .i64 10, .int .i64 25, .int .i64 0, .string ⟨#[97]⟩, .int .i64 0, .int .i64 253402300800, .int .i64 0, .int .i64 14, .int .i64 14, .int .i64 14, .int .i64 3, .int .i64 10, .int .i64 25, .int .i64 0, .string ⟨#[97]⟩, .int .i64 0, .int .i64 0, .int .i64 0, .int .i64 3, .int .i64 2, .int .i64 3, .int .i64 3, .int .i64 10, .int .i64 25, .int .i64 0, .string ⟨#[97]⟩, .int .i64 0, .int .i64 0, .int .i64 5, .int .i64 3, .int .i64 2, .int .i64 3, .int .i64 3, .int .i64 10, .int .i64 25, .int .i64 0, .string ⟨#[97]⟩, .int .i64 0, .int .i64 0, .int .i64 4, .int .i64 0, .int .i64 2, .int .i64 3, .int .i64 0, .int .i64 0, .int .i64 0, .int .i64 0, .string ⟨#[97]⟩, .int .i64 0, .int .i64 0, .int .i64 1, .int .i64 0, .int .i64 12, .int .i64 3] : Array Value) = tabE from rfl]
  clear hk2
  generalize w2.alloc (.cells tabE 62) = w3 at *
  clear hkB
  go_loopw [51] (fun kv wr => ∃ k : Nat, k ≤ 9 ∧ kv = .int .i64 k ∧ G w wr ∧ Blk wr kB 23 #[.int .i64 21, .int .i64 1, .int .i64 1, .int .i64 0] ∧ Blk wr (kB + 1) 23 #[.int .i64 3, .int .i64 10, .int .i64 25, .int .i64 0] ∧ Blk wr (kB + 1 + 1) 62 tabE) (fun kv _ => 9 - (intOf kv).toNat)
  case atStart => exact ⟨0, by omega, rfl, gA, hBd, hGd, hS⟩
  case round =>
    clear gA hBd hGd hS
    obtain ⟨k, hk, rfl, gA, hBd, hGd, hS⟩ := hrel
    by_cases hlt : k < 9
    · obtain ⟨M, B, C, J, s, d, t, n, e, f, g, hc⟩ := caseE k hlt
      have y0 : wr.cell? ⟨kB + 1 + 1, k * 11, none⟩ = some (.int .i64 M) := (hS.cell _).trans hc.h0
      have y1 : wr.cell? ⟨kB + 1 + 1, k * 11 + 1, none⟩ = some (.int .i64 B) := (hS.cell _).trans hc.h1
      have y2 : wr.cell? ⟨kB + 1 + 1, k * 11 + 2, none⟩ = some (.int .i64 C) := (hS.cell _).trans hc.h2
      have y3 : wr.cell? ⟨kB + 1 + 1, k * 11 + 3, none⟩ = some (.int .i64 J) := (hS.cell _).trans hc.h3
      have y4 : wr.cell? ⟨kB + 1 + 1, k * 11 + 4, none⟩ = some (.string s) := (hS.cell _).trans hc.h4
      have y5 : wr.cell? ⟨kB + 1 + 1, k * 11 + 5, none⟩ = some (.int .i64 d) := (hS.cell _).trans hc.h5
      have y6 : wr.cell? ⟨kB + 1 + 1, k * 11 + 6, none⟩ = some (.int .i64 t) := (hS.cell _).trans hc.h6
      have y7 : wr.cell? ⟨kB + 1 + 1, k * 11 + 7, none⟩ = some (.int .i64 n) := (hS.cell _).trans hc.h7
      have y8 : wr.cell? ⟨kB + 1 + 1, k * 11 + 8, none⟩ = some (.int .i64 e) := (hS.cell _).trans hc.h8
      have y9 : wr.cell? ⟨kB + 1 + 1, k * 11 + 9, none⟩ = some (.int .i64 f) := (hS.cell _).trans hc.h9
      have y10 : wr.cell? ⟨kB + 1 + 1, k * 11 + 10, none⟩ = some (.int .i64 g) := (hS.cell _).trans hc.h10
      obtain ⟨n0, n1⟩ := hc.b
      have hki : (k : Int) < 9 := by omega
      have HC := Lib.hid hc
      clear hc
      have bX := Blk.new wr 62 #[.int .i64 M, .int .i64 B, .int .i64 C, .int .i64 J, .string s, .int .i64 d, .int .i64 t, .int .i64 n, .int .i64 e, .int .i64 f, .int .i64 g]
      replace gA := gA.alloc (.cells #[.int .i64 M, .int .i64 B, .int .i64 C, .int .i64 J, .string s, .int .i64 d, .int .i64 t, .int .i64 n, .int .i64 e, .int .i64 f, .int .i64 g] 62)
      replace hBd := hBd.alloc (.cells #[.int .i64 M, .int .i64 B, .int .i64 C, .int .i64 J, .string s, .int .i64 d, .int .i64 t, .int .i64 n, .int .i64 e, .int .i64 f, .int .i64 g] 62)
      replace hGd := hGd.alloc (.cells #[.int .i64 M, .int .i64 B, .int .i64 C, .int .i64 J, .string s, .int .i64 d, .int .i64 t, .int .i64 n, .int .i64 e, .int .i64 f, .int .i64 g] 62)
      replace hS := hS.alloc (.cells #[.int .i64 M, .int .i64 B, .int .i64 C, .int .i64 J, .string s, .int .i64 d, .int .i64 t, .int .i64 n, .int .i64 e, .int .i64 f, .int .i64 g] 62)
      have x0 : (wr.alloc (.cells #[.int .i64 M, .int .i64 B, .int .i64 C, .int .i64 J, .string s, .int .i64 d, .int .i64 t, .int .i64 n, .int .i64 e, .int .i64 f, .int .i64 g] 62)).cell? ⟨wr.heap.size, 0, none⟩ = some (.int .i64 M) := bX.cell 0
      have x1 : (wr.alloc (.cells #[.int .i64 M, .int .i64 B, .int .i64 C, .int .i64 J, .string s, .int .i64 d, .int .i64 t, .int .i64 n, .int .i64 e, .int .i64 f, .int .i64 g] 62)).cell? ⟨wr.heap.size, 1, none⟩ = some (.int .i64 B) := bX.cell 1
      have x2 : (wr.alloc (.cells #[.int .i64 M, .int .i64 B, .int .i64 C, .int .i64 J, .string s, .int .i64 d, .int .i64 t, .int .i64 n, .int .i64 e, .int .i64 f, .int .i64 g] 62)).cell? ⟨wr.heap.size, 2, none⟩ = some (.int .i64 C) := bX.cell 2
      have x3 : (wr.alloc (.cells #[.int .i64 M, .int .i64 B, .int .i64 C, .int .i64 J, .string s, .int .i64 d, .int .i64 t, .int .i64 n, .int .i64 e, .int .i64 f, .int .i64 g] 62)).cell? ⟨wr.heap.size, 3, none⟩ = some (.int .i64 J) := bX.cell 3
      have x4 : (wr.alloc (.cells #[.int .i64 M, .int .i64 B, .int .i64 C, .int .i64 J, .string s, .int .i64 d, .int .i64 t, .int .i64 n, .int .i64 e, .int .i64 f, .int .i64 g] 62)).cell? ⟨wr.heap.size, 4, none⟩ = some (.string s) := bX.cell 4
      have x5 : (wr.alloc (.cells #[.int .i64 M, .int .i64 B, .int .i64 C, .int .i64 J, .string s, .int .i64 d, .int .i64 t, .int .i64 n, .int .i64 e, .int .i64 f, .int .i64 g] 62)).cell? ⟨wr.heap.size, 5, none⟩ = some (.int .i64 d) := bX.cell 5
      have x6 : (wr.alloc (.cells #[.int .i64 M, .int .i64 B, .int .i64 C, .int .i64 J, .string s, .int .i64 d, .int .i64 t, .int .i64 n, .int .i64 e, .int .i64 f, .int .i64 g] 62)).cell? ⟨wr.heap.size, 6, none⟩ = some (.int .i64 t) := bX.cell 6
      have x7 : (wr.alloc (.cells #[.int .i64 M, .int .i64 B, .int .i64 C, .int .i64 J, .string s, .int .i64 d, .int .i64 t, .int .i64 n, .int .i64 e, .int .i64 f, .int .i64 g] 62)).cell? ⟨wr.heap.size, 7, none⟩ = some (.int .i64 n) := bX.cell 7
      have x8 : (wr.alloc (.cells #[.int .i64 M, .int .i64 B, .int .i64 C, .int .i64 J, .string s, .int .i64 d, .int .i64 t, .int .i64 n, .int .i64 e, .int .i64 f, .int .i64 g] 62)).cell? ⟨wr.heap.size, 8, none⟩ = some (.int .i64 e) := bX.cell 8
      have x9 : (wr.alloc (.cells #[.int .i64 M, .int .i64 B, .int .i64 C, .int .i64 J, .string s, .int .i64 d, .int .i64 t, .int .i64 n, .int .i64 e, .int .i64 f, .int .i64 g] 62)).cell? ⟨wr.heap.size, 9, none⟩ = some (.int .i64 f) := bX.cell 9
      have x10 : (wr.alloc (.cells #[.int .i64 M, .int .i64 B, .int .i64 C, .int .i64 J, .string s, .int .i64 d, .int .i64 t, .int .i64 n, .int .i64 e, .int .i64 f, .int .i64 g] 62)).cell? ⟨wr.heap.size, 10, none⟩ = some (.int .i64 g) := bX.cell 10
      obtain ⟨q1, hq1⟩ : ∃ q, nxV M B C J 1 s d n t = q := ⟨_, rfl⟩
      obtain ⟨q2, hq2⟩ : ∃ q, nxB M B C J s d n t = q := ⟨_, rfl⟩
      obtain ⟨q3, hq3⟩ : ∃ q, erV M B C J n t = q := ⟨_, rfl⟩
      obtain ⟨q4, hq4⟩ : ∃ q, alB M B C J n t (-1) = q := ⟨_, rfl⟩
      have HQ := Lib.hid (And.intro hq1 (And.intro hq2 (And.intro hq3 hq4)))
      clear hq1 hq2 hq3 hq4
      go_wp2_with fail
      clear y0 y1 y2 y3 y4 y5 y6 y7 y8 y9 y10
      go_at_call 17
      refine (next_any M B C J 1 s d n t u1 n0 n1 _ (HT.out.g gA)).mono ?_
      rintro e0 v1 ⟨rfl, gx⟩
      rw [HQ.out.1, HQ.out.2.1, HC.out.e1]
      replace hBd := hBd.g gx
      replace hGd := hGd.g gx
      replace hS := hS.g gx
      replace gA := gA.trans gx
      replace bX := bX.g gx
      clear x0 x1 x2 x3 x4 x5 x6 x7 x8 x9 x10 gx
      have x0 : v1.cell? ⟨wr.heap.size, 0, none⟩ = some (.int .i64 M) := bX.cell 0
      have x1 : v1.cell? ⟨wr.heap.size, 1, none⟩ = some (.int .i64 B) := bX.cell 1
      have x2 : v1.cell? ⟨wr.heap.size, 2, none⟩ = some (.int .i64 C) := bX.cell 2
      have x3 : v1.cell? ⟨wr.heap.size, 3, none⟩ = some (.int .i64 J) := bX.cell 3
      have x4 : v1.cell? ⟨wr.heap.size, 4, none⟩ = some (.string s) := bX.cell 4
      have x5 : v1.cell? ⟨wr.heap.size, 5, none⟩ = some (.int .i64 d) := bX.cell 5
      have x6 : v1.cell? ⟨wr.heap.size, 6, none⟩ = some (.int .i64 t) := bX.cell 6
      have x7 : v1.cell? ⟨wr.heap.size, 7, none⟩ = some (.int .i64 n) := bX.cell 7
      have x8 : v1.cell? ⟨wr.heap.size, 8, none⟩ = some (.int .i64 e) := bX.cell 8
      have x9 : v1.cell? ⟨wr.heap.size, 9, none⟩ = some (.int .i64 f) := bX.cell 9
      have x10 : v1.cell? ⟨wr.heap.size, 10, none⟩ = some (.int .i64 g) := bX.cell 10
      go_wp2_with fail
      have rb : Rd (v1.alloc (.cells #[.int .i64 (-1)] 2)) (.slice (some ⟨v1.heap.size, 0, none⟩) 1 1) (vI .i64 [-1]) := Rd.blk (Blk.new v1 2 #[.int .i64 (-1)]) (by simp)
      replace gA := gA.alloc (.cells #[.int .i64 (-1)] 2)
      replace bX := bX.alloc (.cells #[.int .i64 (-1)] 2)
      replace hBd := hBd.alloc (.cells #[.int .i64 (-1)] 2)
      replace hGd := hGd.alloc (.cells #[.int .i64 (-1)] 2)
      replace hS := hS.alloc (.cells #[.int .i64 (-1)] 2)
      go_at_call 14
      refine (chain_any M B C J 1 s d t _ [-1] u1 (by decide) _ rb (HT.out.g gA)).mono ?_
      rintro e0 v2 ⟨vL, rfl, rL, gx⟩
      rw [HC.out.e2]
      replace hBd := hBd.g gx
      replace hGd := hGd.g gx
      replace hS := hS.g gx
      clear rb rL
      replace gA := gA.trans gx
      replace bX := bX.g gx
      clear x0 x1 x2 x3 x4 x5 x6 x7 x8 x9 x10 gx
      have x0 : v2.cell? ⟨wr.heap.size, 0, none⟩ = some (.int .i64 M) := bX.cell 0
      have x1 : v2.cell? ⟨wr.heap.size, 1, none⟩ = some (.int .i64 B) := bX.cell 1
      have x2 : v2.cell? ⟨wr.heap.size, 2, none⟩ = some (.int .i64 C) := bX.cell 2
      have x3 : v2.cell? ⟨wr.heap.size, 3, none⟩ = some (.int .i64 J) := bX.cell 3
      have x4 : v2.cell? ⟨wr.heap.size, 4, none⟩ = some (.string s) := bX.cell 4
      have x5 : v2.cell? ⟨wr.heap.size, 5, none⟩ = some (.int .i64 d) := bX.cell 5
      have x6 : v2.cell? ⟨wr.heap.size, 6, none⟩ = some (.int .i64 t) := bX.cell 6
      have x7 : v2.cell? ⟨wr.heap.size, 7, none⟩ = some (.int .i64 n) := bX.cell 7
      have x8 : v2.cell? ⟨wr.heap.size, 8, none⟩ = some (.int .i64 e) := bX.cell 8
      have x9 : v2.cell? ⟨wr.heap.size, 9, none⟩ = some (.int .i64 f) := bX.cell 9
      have x10 : v2.cell? ⟨wr.heap.size, 10, none⟩ = some (.int .i64 g) := bX.cell 10
      go_wp2_with fail
      go_at_call 21
      refine (earliest_any M B C J n t _).mono ?_
      rintro e0 v3 ⟨rfl, gx⟩
      rw [HQ.out.2.2.1, HC.out.e3]
      replace hBd := hBd.g gx
      replace hGd := hGd.g gx
      replace hS := hS.g gx
      replace gA := gA.trans gx
      replace bX := bX.g gx
      clear x0 x1 x2 x3 x4 x5 x6 x7 x8 x9 x10 gx
      have x0 : v3.cell? ⟨wr.heap.size, 0, none⟩ = some (.int .i64 M) := bX.cell 0
      have x1 : v3.cell? ⟨wr.heap.size, 1, none⟩ = some (.int .i64 B) := bX.cell 1
      have x2 : v3.cell? ⟨wr.heap.size, 2, none⟩ = some (.int .i64 C) := bX.cell 2
      have x3 : v3.cell? ⟨wr.heap.size, 3, none⟩ = some (.int .i64 J) := bX.cell 3
      have x4 : v3.cell? ⟨wr.heap.size, 4, none⟩ = some (.string s) := bX.cell 4
      have x5 : v3.cell? ⟨wr.heap.size, 5, none⟩ = some (.int .i64 d) := bX.cell 5
      have x6 : v3.cell? ⟨wr.heap.size, 6, none⟩ = some (.int .i64 t) := bX.cell 6
      have x7 : v3.cell? ⟨wr.heap.size, 7, none⟩ = some (.int .i64 n) := bX.cell 7
      have x8 : v3.cell? ⟨wr.heap.size, 8, none⟩ = some (.int .i64 e) := bX.cell 8
      have x9 : v3.cell? ⟨wr.heap.size, 9, none⟩ = some (.int .i64 f) := bX.cell 9
      have x10 : v3.cell? ⟨wr.heap.size, 10, none⟩ = some (.int .i64 g) := bX.cell 10
      go_wp2_with fail
      go_at_call 23
      refine (allowed_any M B C J n t (-1) (by decide) (by decide) _).mono ?_
      rintro e0 v4 ⟨rfl, gx⟩
      rw [HQ.out.2.2.2, HC.out.e3]
      replace hBd := hBd.g gx
      replace hGd := hGd.g gx
      replace hS := hS.g gx
      replace gA := gA.trans gx
      replace bX := bX.g gx
      clear x0 x1 x2 x3 x4 x5 x6 x7 x8 x9 x10 gx
      have x0 : v4.cell? ⟨wr.heap.size, 0, none⟩ = some (.int .i64 M) := bX.cell 0
      have x1 : v4.cell? ⟨wr.heap.size, 1, none⟩ = some (.int .i64 B) := bX.cell 1
      have x2 : v4.cell? ⟨wr.heap.size, 2, none⟩ = some (.int .i64 C) := bX.cell 2
      have x3 : v4.cell? ⟨wr.heap.size, 3, none⟩ = some (.int .i64 J) := bX.cell 3
      have x4 : v4.cell? ⟨wr.heap.size, 4, none⟩ = some (.string s) := bX.cell 4
      have x5 : v4.cell? ⟨wr.heap.size, 5, none⟩ = some (.int .i64 d) := bX.cell 5
      have x6 : v4.cell? ⟨wr.heap.size, 6, none⟩ = some (.int .i64 t) := bX.cell 6
      have x7 : v4.cell? ⟨wr.heap.size, 7, none⟩ = some (.int .i64 n) := bX.cell 7
      have x8 : v4.cell? ⟨wr.heap.size, 8, none⟩ = some (.int .i64 e) := bX.cell 8
      have x9 : v4.cell? ⟨wr.heap.size, 9, none⟩ = some (.int .i64 f) := bX.cell 9
      have x10 : v4.cell? ⟨wr.heap.size, 10, none⟩ = some (.int .i64 g) := bX.cell 10
      go_wp2_with fail
      go_roundw
      case rel => exact ⟨k + 1, by omega, by go_num, gA, hBd, hGd, hS⟩
      case measure => simp [intOf]; omega
    · obtain rfl : k = 9 := by omega
      clear hS
      obtain ⟨z1, hz1⟩ : ∃ q, ltV 21 1 1 0 (-1) (-1) (-1) = q := ⟨_, rfl⟩
      obtain ⟨z2, hz2⟩ : ∃ q, ltV 3 10 25 0 (-1) (-1) (-1) = q := ⟨_, rfl⟩
      obtain ⟨z3, hz3⟩ : ∃ q, ltV 3 10 25 0 0 0 68719476737 = q := ⟨_, rfl⟩
      obtain ⟨z4, hz4⟩ : ∃ q, ltV 3 10 25 0 0 (-1) 0 = q := ⟨_, rfl⟩
      obtain ⟨z5, hz5⟩ : ∃ q, lfV 21 1 1 0 0 = q := ⟨_, rfl⟩
      obtain ⟨z6, hz6⟩ : ∃ q, lfV 3 10 25 0 0 = q := ⟨_, rfl⟩
      have HZ1 := Lib.hid hz1
      have HZ2 := Lib.hid hz2
      have HZ3 := Lib.hid hz3
      have HZ4 := Lib.hid hz4
      have HZ5 := Lib.hid hz5
      have HZ6 := Lib.hid hz6
      clear hz1 hz2 hz3 hz4 hz5 hz6
      have b0 : wr.cell? ⟨kB, 0, none⟩ = some (.int .i64 21) := hBd.cell 0
      have b1 : wr.cell? ⟨kB, 1, none⟩ = some (.int .i64 1) := hBd.cell 1
      have b2 : wr.cell? ⟨kB, 2, none⟩ = some (.int .i64 1) := hBd.cell 2
      have b3 : wr.cell? ⟨kB, 3, none⟩ = some (.int .i64 0) := hBd.cell 3
      have g0 : wr.cell? ⟨kB + 1, 0, none⟩ = some (.int .i64 3) := hGd.cell 0
      have g1 : wr.cell? ⟨kB + 1, 1, none⟩ = some (.int .i64 10) := hGd.cell 1
      have g2 : wr.cell? ⟨kB + 1, 2, none⟩ = some (.int .i64 25) := hGd.cell 2
      have g3 : wr.cell? ⟨kB + 1, 3, none⟩ = some (.int .i64 0) := hGd.cell 3
      go_wp2_with fail
      go_at_call 19
      refine (latest_any 21 1 1 0 (-1) (-1) (-1) _).mono ?_
      rintro e0 v1 ⟨rfl, gx⟩
      rw [HZ1.out, l1]
      replace gA := gA.trans gx
      replace hBd := hBd.g gx
      replace hGd := hGd.g gx
      clear b0 b1 b2 b3 g0 g1 g2 g3 gx
      have b0 : v1.cell? ⟨kB, 0, none⟩ = some (.int .i64 21) := hBd.cell 0
      have b1 : v1.cell? ⟨kB, 1, none⟩ = some (.int .i64 1) := hBd.cell 1
      have b2 : v1.cell? ⟨kB, 2, none⟩ = some (.int .i64 1) := hBd.cell 2
      have b3 : v1.cell? ⟨kB, 3, none⟩ = some (.int .i64 0) := hBd.cell 3
      have g0 : v1.cell? ⟨kB + 1, 0, none⟩ = some (.int .i64 3) := hGd.cell 0
      have g1 : v1.cell? ⟨kB + 1, 1, none⟩ = some (.int .i64 10) := hGd.cell 1
      have g2 : v1.cell? ⟨kB + 1, 2, none⟩ = some (.int .i64 25) := hGd.cell 2
      have g3 : v1.cell? ⟨kB + 1, 3, none⟩ = some (.int .i64 0) := hGd.cell 3
      go_wp2_with fail
      go_at_call 19
      refine (latest_any 3 10 25 0 (-1) (-1) (-1) _).mono ?_
      rintro e0 v2 ⟨rfl, gx⟩
      rw [HZ2.out, l2]
      replace gA := gA.trans gx
      replace hBd := hBd.g gx
      replace hGd := hGd.g gx
      clear b0 b1 b2 b3 g0 g1 g2 g3 gx
      have b0 : v2.cell? ⟨kB, 0, none⟩ = some (.int .i64 21) := hBd.cell 0
      have b1 : v2.cell? ⟨kB, 1, none⟩ = some (.int .i64 1) := hBd.cell 1
      have b2 : v2.cell? ⟨kB, 2, none⟩ = some (.int .i64 1) := hBd.cell 2
      have b3 : v2.cell? ⟨kB, 3, none⟩ = some (.int .i64 0) := hBd.cell 3
      have g0 : v2.cell? ⟨kB + 1, 0, none⟩ = some (.int .i64 3) := hGd.cell 0
      have g1 : v2.cell? ⟨kB + 1, 1, none⟩ = some (.int .i64 10) := hGd.cell 1
      have g2 : v2.cell? ⟨kB + 1, 2, none⟩ = some (.int .i64 25) := hGd.cell 2
      have g3 : v2.cell? ⟨kB + 1, 3, none⟩ = some (.int .i64 0) := hGd.cell 3
      go_wp2_with fail
      go_at_call 19
      refine (latest_any 3 10 25 0 0 0 68719476737 _).mono ?_
      rintro e0 v3 ⟨rfl, gx⟩
      rw [HZ3.out, l3]
      replace gA := gA.trans gx
      replace hBd := hBd.g gx
      replace hGd := hGd.g gx
      clear b0 b1 b2 b3 g0 g1 g2 g3 gx
      have b0 : v3.cell? ⟨kB, 0, none⟩ = some (.int .i64 21) := hBd.cell 0
      have b1 : v3.cell? ⟨kB, 1, none⟩ = some (.int .i64 1) := hBd.cell 1
      have b2 : v3.cell? ⟨kB, 2, none⟩ = some (.int .i64 1) := hBd.cell 2
      have b3 : v3.cell? ⟨kB, 3, none⟩ = some (.int .i64 0) := hBd.cell 3
      have g0 : v3.cell? ⟨kB + 1, 0, none⟩ = some (.int .i64 3) := hGd.cell 0
      have g1 : v3.cell? ⟨kB + 1, 1, none⟩ = some (.int .i64 10) := hGd.cell 1
      have g2 : v3.cell? ⟨kB + 1, 2, none⟩ = some (.int .i64 25) := hGd.cell 2
      have g3 : v3.cell? ⟨kB + 1, 3, none⟩ = some (.int .i64 0) := hGd.cell 3
      go_wp2_with fail
      go_at_call 19
      refine (latest_any 3 10 25 0 0 (-1) 0 _).mono ?_
      rintro e0 v4 ⟨rfl, gx⟩
      rw [HZ4.out, l4]
      replace gA := gA.trans gx
      replace hBd := hBd.g gx
      replace hGd := hGd.g gx
      clear b0 b1 b2 b3 g0 g1 g2 g3 gx
      have b0 : v4.cell? ⟨kB, 0, none⟩ = some (.int .i64 21) := hBd.cell 0
      have b1 : v4.cell? ⟨kB, 1, none⟩ = some (.int .i64 1) := hBd.cell 1
      have b2 : v4.cell? ⟨kB, 2, none⟩ = some (.int .i64 1) := hBd.cell 2
      have b3 : v4.cell? ⟨kB, 3, none⟩ = some (.int .i64 0) := hBd.cell 3
      have g0 : v4.cell? ⟨kB + 1, 0, none⟩ = some (.int .i64 3) := hGd.cell 0
      have g1 : v4.cell? ⟨kB + 1, 1, none⟩ = some (.int .i64 10) := hGd.cell 1
      have g2 : v4.cell? ⟨kB + 1, 2, none⟩ = some (.int .i64 25) := hGd.cell 2
      have g3 : v4.cell? ⟨kB + 1, 3, none⟩ = some (.int .i64 0) := hGd.cell 3
      go_wp2_with fail
      replace gA := gA.alloc (.cells #[.int .i64 20, .int .i64 68719476736, .int .i64 68719476736, .int .i64 68719476736] 23)
      replace hBd := hBd.alloc (.cells #[.int .i64 20, .int .i64 68719476736, .int .i64 68719476736, .int .i64 68719476736] 23)
      replace hGd := hGd.alloc (.cells #[.int .i64 20, .int .i64 68719476736, .int .i64 68719476736, .int .i64 68719476736] 23)
      go_at_call 19
      refine (latest_any 20 68719476736 68719476736 68719476736 253402300799 68719476736 68719476736 _).mono ?_
      rintro e0 v5 ⟨rfl, gx⟩
      rw [l5, l6]
      replace gA := gA.trans gx
      replace hBd := hBd.g gx
      replace hGd := hGd.g gx
      clear b0 b1 b2 b3 g0 g1 g2 g3 gx
      have b0 : v5.cell? ⟨kB, 0, none⟩ = some (.int .i64 21) := hBd.cell 0
      have b1 : v5.cell? ⟨kB, 1, none⟩ = some (.int .i64 1) := hBd.cell 1
      have b2 : v5.cell? ⟨kB, 2, none⟩ = some (.int .i64 1) := hBd.cell 2
      have b3 : v5.cell? ⟨kB, 3, none⟩ = some (.int .i64 0) := hBd.cell 3
      have g0 : v5.cell? ⟨kB + 1, 0, none⟩ = some (.int .i64 3) := hGd.cell 0
      have g1 : v5.cell? ⟨kB + 1, 1, none⟩ = some (.int .i64 10) := hGd.cell 1
      have g2 : v5.cell? ⟨kB + 1, 2, none⟩ = some (.int .i64 25) := hGd.cell 2
      have g3 : v5.cell? ⟨kB + 1, 3, none⟩ = some (.int .i64 0) := hGd.cell 3
      go_wp2_with fail
      go_at_call 25
      refine (left_any 21 1 1 0 0 _).mono ?_
      rintro e0 v6 ⟨rfl, gx⟩
      rw [HZ5.out, l7]
      replace gA := gA.trans gx
      replace hBd := hBd.g gx
      replace hGd := hGd.g gx
      clear b0 b1 b2 b3 g0 g1 g2 g3 gx
      have b0 : v6.cell? ⟨kB, 0, none⟩ = some (.int .i64 21) := hBd.cell 0
      have b1 : v6.cell? ⟨kB, 1, none⟩ = some (.int .i64 1) := hBd.cell 1
      have b2 : v6.cell? ⟨kB, 2, none⟩ = some (.int .i64 1) := hBd.cell 2
      have b3 : v6.cell? ⟨kB, 3, none⟩ = some (.int .i64 0) := hBd.cell 3
      have g0 : v6.cell? ⟨kB + 1, 0, none⟩ = some (.int .i64 3) := hGd.cell 0
      have g1 : v6.cell? ⟨kB + 1, 1, none⟩ = some (.int .i64 10) := hGd.cell 1
      have g2 : v6.cell? ⟨kB + 1, 2, none⟩ = some (.int .i64 25) := hGd.cell 2
      have g3 : v6.cell? ⟨kB + 1, 3, none⟩ = some (.int .i64 0) := hGd.cell 3
      go_wp2_with fail
      go_at_call 25
      refine (left_any 3 10 25 0 0 _).mono ?_
      rintro e0 v7 ⟨rfl, gx⟩
      rw [HZ6.out, l8]
      replace gA := gA.trans gx
      replace hBd := hBd.g gx
      replace hGd := hGd.g gx
      clear b0 b1 b2 b3 g0 g1 g2 g3 gx
      have b0 : v7.cell? ⟨kB, 0, none⟩ = some (.int .i64 21) := hBd.cell 0
      have b1 : v7.cell? ⟨kB, 1, none⟩ = some (.int .i64 1) := hBd.cell 1
      have b2 : v7.cell? ⟨kB, 2, none⟩ = some (.int .i64 1) := hBd.cell 2
      have b3 : v7.cell? ⟨kB, 3, none⟩ = some (.int .i64 0) := hBd.cell 3
      have g0 : v7.cell? ⟨kB + 1, 0, none⟩ = some (.int .i64 3) := hGd.cell 0
      have g1 : v7.cell? ⟨kB + 1, 1, none⟩ = some (.int .i64 10) := hGd.cell 1
      have g2 : v7.cell? ⟨kB + 1, 2, none⟩ = some (.int .i64 25) := hGd.cell 2
      have g3 : v7.cell? ⟨kB + 1, 3, none⟩ = some (.int .i64 0) := hGd.cell 3
      go_wp2_with fail
      go_at_call 12
      refine (works_any _ (HT.out.g gA)).mono ?_
      rintro e0 w99 ⟨rfl, gx⟩
      go_wp2_with fail
      go_ret
      exact ⟨rfl, gA.trans gx⟩

set_option maxRecDepth 4000 in
set_option maxHeartbeats 2000000 in
theorem contract (H : Type) (enc : TypeId × Value → H) (W : World) (base : Nat) (args : Array Value) (ds gs : List (DataW H)) (before : List MemPlace)
    (hval : ∀ (j : Nat) t v, Tryd.f11.params[j]? = some t → args[j]? = some v → Value.okWide Tryd.prog W .any base t v)
    (hW : DataW.Whole enc Tryd.prog Tryd.f11.params.toList Rows.retryErrorsSpec.vars false W args.toList ds gs before) (hL : laidMetH Tryd.prog Rows.retryErrorsRow.laid W) :
    Calls Tryd.prog 11 args W fun e W' => ∃ v, e = .returned v ∧ Rows.retryErrorsSpec.post enc Tryd.prog Tryd.f11 false true false false W args v W' := by
  have hW' := hW
  obtain ⟨p, q, hA0, hV, rfl, hfz, hnd⟩ := hW
  have hA : DataW.TrodAll enc Tryd.prog W 0 (fun _ => true) true Tryd.f11.params.toList args.toList ds p := hA0
  rw [Tryd.params11] at hA hval
  obtain rfl : args = #[] := by rcases args with ⟨l⟩; cases l with | nil => rfl | cons a b => exact (by cases ds <;> exact hA.elim)
  obtain rfl : ds = [] := by cases ds with | nil => rfl | cons a b => exact hA.elim
  refine (walk (w := W)  (tab_of hL)).mono fun e W' ⟨he, hg⟩ => ?_
  subst he
  exact ⟨_, rfl, law_post laidOut_ (by
    intro t ht
    rw [Tryd.params11] at ht
    simp at ht
    skip) hW' rfl rfl (by kernel_rfl) Tryd.underlying4 hg⟩
theorem laid_met (os : Os) : laidMet Tryd.prog Rows.retryErrorsRow.laid ((laidWorld os).forCall (fun _ _ => 0) ⟨#[], #[], []⟩).memory :=
  laidMet_of_run' 8 (by kernel_rfl) (by kernel_rfl)
theorem reads (os : Os) {H : Type} (enc : TypeId × Value → H) : ∃ places, DataW.whole enc Tryd.prog ((laidWorld os).forCall (fun _ _ => 0) ⟨#[], #[], []⟩).memory Tryd.f11.params.toList Rows.retryErrorsSpec.vars false (#[] : Array Value).toList 8 = some ([], [], places) :=
  ⟨[], by kernel_rfl⟩
set_option maxRecDepth 100000 in
theorem lifted (os : Os) (started : os.Started) (H : Type) (enc : TypeId × Value → H) (F : Stop.Interp) :
    ReturnsInHanded {} Tryd.checked os 11 .any ((OpenSpec.ofChange Rows.retryErrorsSpec).preRow enc Tryd.prog Tryd.f11 Rows.retryErrorsRow.domain false Rows.retryErrorsRow.laid) (((OpenSpec.ofChange Rows.retryErrorsSpec).at F).post enc Tryd.prog Tryd.f11 false true false false) := by
  obtain ⟨places, hx⟩ := reads os enc
  refine returnsInHanded_of_row (C := Tryd.checked) (s := OpenSpec.ofChange Rows.retryErrorsSpec) own_ started (by kernel_rfl) Tryd.func11
    (witness_row_at (enc := enc) (C := Tryd.checked) false (laidWorld os) #[] rfl (by kernel_rfl) (by kernel_rfl) (by kernel_rfl)
      (OpenSpec.preRow_of_cond 8 hx (by kernel_rfl) (fun k hk => by cases hk) (by kernel_rfl) (laid_met os))) ?_
  intro W base args ds gs before hval hW _ _ _ hL _ _
  exact contract H enc W base args ds gs before hval hW hL
theorem said : Rows.RetryErrorsSaid :=
  OpenClaim.holds_of_cond 11 Tryd.f11 rfl rfl rfl rfl rfl rfl rfl ⟨rfl, rfl, rfl, rfl, rfl⟩ rfl rfl rfl rfl rfl (by kernel_rfl) Tryd.func11 (by kernel_rfl)
    (of_decide_eq_true (by kernel_rfl)) (by unfold Func.isWrapper; first | (rw [if_pos (by decide +kernel)]; kernel_rfl) | (rw [if_neg (by decide +kernel)]; exact ⟨rfl, rfl⟩))
    (fun os started H enc _ F => by rw [OpenClaim.pre_eq_preRow]; exact lifted os started H enc F)
theorem plain (f : FuncId) (fn : Func) (hf : Tryd.pinned.checked.prog.funcNamed "wakeman/wakemanlaw31.RetryErrors" = some f) (hfn : Tryd.pinned.checked.prog.funcs[f]? = some fn) :
    false = Tryd.pinned.checked.prog.looks [] ∧ ∀ (j : Nat) t, fn.params[j]? = some t → Tryd.pinned.checked.prog.wantsStandIn t = false := by
  obtain rfl : f = 11 := Option.some.inj ((show Tryd.prog.funcNamed "wakeman/wakemanlaw31.RetryErrors" = some 11 by kernel_rfl).symm.trans hf) |>.symm
  obtain rfl : fn = Tryd.f11 := (Option.some.inj (Tryd.func11.symm.trans hfn)).symm
  refine ⟨by kernel_rfl, fun j t ht => ?_⟩
  rw [Tryd.params11] at ht
  simp at ht
theorem card : Rows.RetryErrorsCardSaid :=
  Claim7.holds_tied_plain_at .later [] _ _ _ _ said (fun _ h => by cases h) (by kernel_rfl) (fun _ h => by cases h) retryErrors_row_tie rfl ⟨rfl, rfl⟩ (by kernel_rfl) rfl plain (by kernel_rfl)
#print axioms card
end Go.Proofs.YtanipfenioaigaaDoor.lawRetryErrors
