/-
  Chain, in the program.
-/
import Derived.Test.YtanipfenioaigaaDoorRtT
import Derived.Test.YtanipfenioaigaaDoorRtE
set_option linter.unusedVariables false
set_option linter.unusedSimpArgs false
namespace Go.Proofs.YtanipfenioaigaaDoor
open Go.RowKit Go.Shelf

def chE (M B C J : Int) (s : ByteArray) (d first : Int) (l : List Int) : Int := if rtE M B C J s d first = 0 then (if (l.length : Int) ≤ M then (if ∀ x ∈ l, spB x then 0 else 2) else 12) else rtE M B C J s d first
def chL (M B C J a : Int) (s : ByteArray) (d first : Int) (l : List Int) : List Int := if chE M B C J s d first l = 0 then (List.range (l.length + 1)).map (tAt M B C J a s d first l) else []
theorem chE_ok {M B C J : Int} {s : ByteArray} {d first : Int} {l : List Int} (h : chE M B C J s d first l = 0) : rtE M B C J s d first = 0 ∧ (l.length : Int) ≤ M ∧ ∀ x ∈ l, spB x := by
  unfold chE at h
  split at h
  · split at h
    · split at h
      · exact ⟨by assumption, by assumption, by assumption⟩
      · omega
    · omega
  · exact absurd h (by assumption)
set_option maxHeartbeats 400000 in
theorem times_any (M B C J a : Int) (s : ByteArray) (d first : Int) (A : Option Addr) (n c : Nat) (w : World) :
    Calls Tryd.prog 36 #[.agg #[.int .i64 M, .int .i64 B, .int .i64 C, .int .i64 J, .int .u64 a, .string s, .int .i64 d], .int .i64 first, .slice A n c] w fun e w' => e = .returned (.func (.func 51) #[] #[.pointer (some ⟨w.heap.size + 1 + 1, 0, none⟩), .pointer (some ⟨w.heap.size + 1, 0, none⟩), .pointer (some ⟨w.heap.size, 0, none⟩)]) ∧ w' = ((w.alloc (.cells #[.int .i64 M, .int .i64 B, .int .i64 C, .int .i64 J, .int .u64 a, .string s, .int .i64 d] 65)).alloc (.cells #[.int .i64 first] 2)).alloc (.cells #[.slice A n c] 27) := by
  go_enter Tryd.func36, Tryd.ntmps36
  go_wp2_with fail
  go_ret
  exact ⟨rfl, rfl⟩
/-- the iterator's boxes, newly made -/
theorem tmAt_new (M B C J a : Int) (s : ByteArray) (d first : Int) (l : List Int) (A : Option Addr) (c : Nat) (w : World) (ht : Tab w) (hd : 0 < l.length → ∃ b o, A = some ⟨b, o, none⟩ ∧ ∀ j u, (vI .i64 l)[j]? = some u → w.cell? ⟨b, o + j, none⟩ = some u) :
    TmAt (w.heap.size + 1 + 1 + 1) w.heap.size (w.heap.size + 1) (w.heap.size + 1 + 1) M B C J a s d A c l first (((w.alloc (.cells #[.int .i64 M, .int .i64 B, .int .i64 C, .int .i64 J, .int .u64 a, .string s, .int .i64 d] 65)).alloc (.cells #[.int .i64 first] 2)).alloc (.cells #[.slice A l.length c] 27)) := by
  have hz := ht.1
  refine ⟨((Blk.new w _ _).alloc _).alloc _, (Blk.new1 w _ _ _).alloc _, Blk.new2 w _ _ _ _, fun i hi => ?_, ht.g ((((G.refl w).alloc _).alloc _).alloc _), ⟨by omega, by omega, by omega⟩, ⟨by omega, by omega, by omega, by omega⟩⟩
  obtain ⟨b, o, rfl, hj⟩ := hd (by omega)
  have hc := hj i _ (vI_get hi)
  have hb := World.block_lt_of_cell? w _ hc
  exact ⟨b, o, rfl, by have : b < w.heap.size := hb; omega, by have : b < w.heap.size := hb; omega, G.cell ((((G.refl w).alloc _).alloc _).alloc _) hb hc⟩
set_option maxHeartbeats 4000000 in
theorem chain_any (M B C J a : Int) (s : ByteArray) (d first : Int) (v : Value) (l : List Int) (ha : u64 a) (hl30 : l.length ≤ 30) (w : World) (hR : Rd w v (vI .i64 l)) (ht : Tab w) :
    Calls Tryd.prog 14 #[.agg #[.int .i64 M, .int .i64 B, .int .i64 C, .int .i64 J], .int .u64 a, .string s, .int .i64 d, .int .i64 first, v] w fun e w' => ∃ v', e = .returned (.tuple #[v', .int .i64 (chE M B C J s d first l)]) ∧ Rd w' v' (vI .i64 (chL M B C J a s d first l)) ∧ G w w' := by
  have HT := Lib.hid ht
  have HQ := Lib.hid (fun (w : World) (h : Tab w) => ocheck_any M B C J a s d first ha w h)
  have HR := Lib.hid hR
  obtain ⟨A, c, rfl, hc, hcm, hd⟩ := hR
  rw [vI_len] at HR hc hd ⊢
  have HD := Lib.hid hd
  clear ht hd
  by_cases hE : rtE M B C J s d first = 0
  · rw [hE] at HQ
    by_cases hm : (l.length : Int) ≤ M
    · by_cases hs : ∀ x ∈ l, spB x
      · have HE : Hid (chE M B C J s d first l = 0) := Lib.hid (by unfold chE; rw [if_pos hE, if_pos hm, if_pos hs])
        have HL : Hid (chL M B C J a s d first l = (List.range (l.length + 1)).map (tAt M B C J a s d first l)) := Lib.hid (if_pos HE.out)
        have HB : Hid (decide (¬ ∀ x ∈ l, spB x) = false) := Lib.hid (decide_eq_false (fun h => h hs))
        have HX := Lib.hid (rtE_ok hE).2.2.2
        have HS := Lib.hid hs
        rw [HE.out, HL.out]
        clear hs HE HL hE
        go_enter Tryd.func14, Tryd.ntmps14
        go_wp2_with fail
        go_at_call 31
        refine (HQ.out _ (HT.out.g (by first | exact G.refl _ | exact (G.refl _).alloc _ | exact ((G.refl _).alloc _).alloc _))).mono ?_
        rintro e w1 ⟨rfl, g1⟩
        have hr : Blk w1 w.heap.size 23 #[.int .i64 M, .int .i64 B, .int .i64 C, .int .i64 J] := ((Blk.new w _ _).alloc _).g g1
        have ho : Blk w1 (w.heap.size + 1) 65 #[.int .i64 M, .int .i64 B, .int .i64 C, .int .i64 J, .int .u64 a, .string s, .int .i64 d] := (Blk.new1 w _ _ _).g g1
        have c0 : w1.cell? ⟨w.heap.size, 0, none⟩ = some (.int .i64 M) := hr.cell 0
        have gW : G w w1 := (((G.refl w).alloc _).alloc _).trans g1
        clear g1
        go_wp2_with fail
        go_at_call 32
        refine (containsFunc_any l _ _ (HR.out.g gW)).mono ?_
        rintro e w2 ⟨rfl, g2⟩
        rw [HB.out]
        replace ho := ho.g g2
        replace gW := gW.trans g2
        clear c0 g2 hr
        have o0 : w2.cell? ⟨w.heap.size + 1, 0, none⟩ = some (.int .i64 M) := ho.cell 0
        have o1 : w2.cell? ⟨w.heap.size + 1, 1, none⟩ = some (.int .i64 B) := ho.cell 1
        have o2 : w2.cell? ⟨w.heap.size + 1, 2, none⟩ = some (.int .i64 C) := ho.cell 2
        have o3 : w2.cell? ⟨w.heap.size + 1, 3, none⟩ = some (.int .i64 J) := ho.cell 3
        have o4 : w2.cell? ⟨w.heap.size + 1, 4, none⟩ = some (.int .u64 a) := ho.cell 4
        have o5 : w2.cell? ⟨w.heap.size + 1, 5, none⟩ = some (.string s) := ho.cell 5
        have o6 : w2.cell? ⟨w.heap.size + 1, 6, none⟩ = some (.int .i64 d) := ho.cell 6
        go_wp2_with fail
        go_at_call 36
        refine (times_any M B C J a s d first A l.length c _).mono ?_
        rintro e w3 ⟨rfl, hw3⟩
        have hTm := tmAt_new M B C J a s d first l A c w2 (HT.out.g gW) (fun h => by
          obtain ⟨b, o, rfl, hj⟩ := HD.out h
          exact ⟨b, o, rfl, fun j u hu => G.cell gW (World.block_lt_of_cell? w _ (hj j u hu)) (hj j u hu)⟩)
        have gT : G w2 w3 := by rw [hw3]; exact (((G.refl w2).alloc _).alloc _).alloc _
        have hsz : w3.heap.size = w2.heap.size + 1 + 1 + 1 := by rw [hw3]; simp
        rw [← hw3] at hTm
        clear hw3 o0 o1 o2 o3 o4 o5 o6
        have hk : w.heap.size ≤ w2.heap.size := gW.size
        have hkF : w.heap.size ≤ w2.heap.size + 1 := by omega
        rw [← hsz] at hTm
        generalize w2.heap.size + 1 + 1 = kR at *
        generalize w2.heap.size + 1 = kF at *
        generalize w2.heap.size = kO at *
        have HCo := Lib.hid (collect_any (tAt M B C J a s d first l) 51 #[.pointer (some ⟨kR, 0, none⟩), .pointer (some ⟨kF, 0, none⟩), .pointer (some ⟨kO, 0, none⟩)] kF (l.length + 1) (l.length + 1) w3 hTm.lt.2.1 (by omega) (enters_of Tryd.func51 (by kernel_rfl) rfl)
          (times_stops 8 (by omega) w3.heap.size kO kF kR M B C J a s d A c l first ha HX.out HS.out hl30 hc hcm w3 (Nat.le_refl _) hTm))
        go_wp2_with fail
        go_at_call 35
        refine HCo.out.mono ?_
        rintro e w4 ⟨v4, rfl, hrow, hg⟩
        go_wp2_with fail
        go_ret2
        exact ⟨v4, rfl, Rd.of_own hrow, (gW.trans gT).own hg hkF⟩
      · have HE : Hid (chE M B C J s d first l = 2) := Lib.hid (by unfold chE; rw [if_pos hE, if_pos hm, if_neg hs])
        have HL : Hid (chL M B C J a s d first l = []) := Lib.hid (if_neg (by rw [HE.out]; decide))
        have HB : Hid (decide (¬ ∀ x ∈ l, spB x) = true) := Lib.hid (decide_eq_true hs)
        rw [HE.out, HL.out]
        clear hs HE HL hE
        go_enter Tryd.func14, Tryd.ntmps14
        go_wp2_with fail
        go_at_call 31
        refine (HQ.out _ (HT.out.g (by first | exact G.refl _ | exact (G.refl _).alloc _ | exact ((G.refl _).alloc _).alloc _))).mono ?_
        rintro e w1 ⟨rfl, g1⟩
        have hr : Blk w1 w.heap.size 23 #[.int .i64 M, .int .i64 B, .int .i64 C, .int .i64 J] := ((Blk.new w _ _).alloc _).g g1
        have ho : Blk w1 (w.heap.size + 1) 65 #[.int .i64 M, .int .i64 B, .int .i64 C, .int .i64 J, .int .u64 a, .string s, .int .i64 d] := (Blk.new1 w _ _ _).g g1
        have c0 : w1.cell? ⟨w.heap.size, 0, none⟩ = some (.int .i64 M) := hr.cell 0
        have gW : G w w1 := (((G.refl w).alloc _).alloc _).trans g1
        clear g1
        go_wp2_with fail
        go_at_call 32
        refine (containsFunc_any l _ _ (HR.out.g gW)).mono ?_
        rintro e w2 ⟨rfl, g2⟩
        rw [HB.out]
        go_wp2_with fail
        go_ret2
        exact ⟨_, rfl, Rd.nil _, gW.trans g2⟩
    · have HE : Hid (chE M B C J s d first l = 12) := Lib.hid (by unfold chE; rw [if_pos hE, if_neg hm])
      have HL : Hid (chL M B C J a s d first l = []) := Lib.hid (if_neg (by rw [HE.out]; decide))
      rw [HE.out, HL.out]
      have hm2 : M < l.length := by omega
      clear hm HE HL hE
      go_enter Tryd.func14, Tryd.ntmps14
      go_wp2_with fail
      go_at_call 31
      refine (HQ.out _ (HT.out.g (by first | exact G.refl _ | exact (G.refl _).alloc _ | exact ((G.refl _).alloc _).alloc _))).mono ?_
      rintro e w1 ⟨rfl, g1⟩
      have hr : Blk w1 w.heap.size 23 #[.int .i64 M, .int .i64 B, .int .i64 C, .int .i64 J] := ((Blk.new w _ _).alloc _).g g1
      have ho : Blk w1 (w.heap.size + 1) 65 #[.int .i64 M, .int .i64 B, .int .i64 C, .int .i64 J, .int .u64 a, .string s, .int .i64 d] := (Blk.new1 w _ _ _).g g1
      have c0 : w1.cell? ⟨w.heap.size, 0, none⟩ = some (.int .i64 M) := hr.cell 0
      have gW : G w w1 := (((G.refl w).alloc _).alloc _).trans g1
      clear g1
      go_wp2_with fail
      go_ret2
      exact ⟨_, rfl, Rd.nil _, gW⟩
  · have HE : Hid (chE M B C J s d first l = rtE M B C J s d first) := Lib.hid (if_neg hE)
    have HL : Hid (chL M B C J a s d first l = []) := Lib.hid (if_neg (by rw [HE.out]; exact hE))
    rw [HE.out, HL.out]
    generalize rtE M B C J s d first = q at *
    have h0 : (q == 0) = false := by simpa using hE
    have h1 : (q != 0) = true := by simpa using hE
    clear HE HL hE
    go_enter Tryd.func14, Tryd.ntmps14
    go_wp2_with fail
    go_at_call 31
    refine (HQ.out _ (HT.out.g (by first | exact G.refl _ | exact (G.refl _).alloc _ | exact ((G.refl _).alloc _).alloc _))).mono ?_
    rintro e w1 ⟨rfl, g1⟩
    have hr : Blk w1 w.heap.size 23 #[.int .i64 M, .int .i64 B, .int .i64 C, .int .i64 J] := ((Blk.new w _ _).alloc _).g g1
    have ho : Blk w1 (w.heap.size + 1) 65 #[.int .i64 M, .int .i64 B, .int .i64 C, .int .i64 J, .int .u64 a, .string s, .int .i64 d] := (Blk.new1 w _ _ _).g g1
    have c0 : w1.cell? ⟨w.heap.size, 0, none⟩ = some (.int .i64 M) := hr.cell 0
    have gW : G w w1 := (((G.refl w).alloc _).alloc _).trans g1
    clear g1
    go_wp2_with fail
    go_ret2
    exact ⟨_, rfl, Rd.nil _, gW⟩
end Go.Proofs.YtanipfenioaigaaDoor
