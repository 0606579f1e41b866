/- exact.Due: the verdict that is due for a request, behind what was decided. -/
import Derived.Test.YtmlpahjmebfgbaaDue
namespace Go.Proofs.Ytmlpahjmebfgbaa.Own
open Go.RowKit Go.Proofs.YtmlpahjmebfgbaaW.PrintWords Go.Proofs.YtmlpahjmebfgbaaW.PrintLast Go.Proofs.YtmlpahjmebfgbaaW.PrintMore Go.Proofs.Ytmlpahjmebfgbaa.PEx
set_option linter.unusedVariables false
set_option linter.unusedSimpArgs false

/-- The tick of a list's last record. -/
def lastTick (l : List S42) : Int := (rd_T42 l ((l.length : Int) - 1)).f0
/-- Is the request earlier than the last record? -/
def early (l : List S42) (at_ : Int) : Bool := decide (0 < l.length) && decide (at_ < lastTick l)
def DueX (kind cap num den width count keys slots every seg : Int) (l : List S42) (at_ : Int) (key : ByteArray) (cost : Int) : Int × Int :=
  if rightX kind cap num den width count keys slots every seg l = 0 then
    (if (tickB at_ && early l at_) = true then (0, 60)
     else if recE ⟨at_, key, cost, 0⟩ = 0 then (dueX kind cap num den width count keys l at_ key cost, 0) else (0, recE ⟨at_, key, cost, 0⟩))
  else (0, rightX kind cap num den width count keys slots every seg l)

set_option maxRecDepth 100000 in
set_option maxHeartbeats 8000000 in
theorem Due_fn (a0_0 a0_1 a0_2 a0_3 a0_4 a0_5 a0_6 a0_7 a0_8 a0_9 : Int) (A : Option Addr) (c : Nat) (l : List S42) (at_ : Int) (key : ByteArray) (cost : Int) (w : World) (hr : Kd.C k42 w A l.length l) (hc : l.length ≤ c) :
    Calls Try.prog 14 #[.agg #[.int .i64 a0_0, .int .i64 a0_1, .int .i64 a0_2, .int .i64 a0_3, .int .i64 a0_4, .int .i64 a0_5, .int .i64 a0_6, .int .i64 a0_7, .int .i64 a0_8, .int .i64 a0_9], .slice A l.length c, .int .i64 at_, .string key, .int .i64 cost] w fun e w' =>
      e = .returned (.tuple #[.int .i64 (DueX a0_0 a0_1 a0_2 a0_3 a0_4 a0_5 a0_6 a0_7 a0_8 a0_9 l at_ key cost).1, .int .i64 (DueX a0_0 a0_1 a0_2 a0_3 a0_4 a0_5 a0_6 a0_7 a0_8 a0_9 l at_ key cost).2]) ∧ Below w.heap.size w w' := by
  have hright := right_eq a0_0 a0_1 a0_2 a0_3 a0_4 a0_5 a0_6 a0_7 a0_8 a0_9 l
  have hll9 := hr.2.1
  by_cases hz : rightX a0_0 a0_1 a0_2 a0_3 a0_4 a0_5 a0_6 a0_7 a0_8 a0_9 l = 0
  · rw [hz] at hright
    have hg := right_good.1 hz
    have hrec := good_recs hg
    have hpol := pol_ok hg.pol
    have hllen := hg.len
    have HZ := Aside0.mk hz
    clear hz
    refine calls_of_wp Try.func14 rfl ?_
    simp only [Try.ntmps14, List.size_toArray, List.length_cons, List.length_nil, Nat.reduceAdd, Nat.reduceSub, Array.replicate_succ, Array.replicate_zero, List.push_toArray, List.append_toArray, List.nil_append, List.cons_append]
    go_wp2_with fail
    refine (read_ok (l.length + 1) a0_0 a0_1 a0_2 a0_3 a0_4 a0_5 a0_6 a0_7 a0_8 a0_9 A c l _ (Kd.C_alloc hr _) hc hright hg.len (fun r h => (hrec r h).2)).mono ?_
    rintro e w1 ⟨b, rfl, hb, hbk, hbw⟩
    have g0 := (hbw.block w.heap.size (by simp)).trans (heap_alloc_new w _)
    have hb1 : Below w.heap.size w w1 := ((Below.refl _ w).alloc (Nat.le_refl _) _).trans (hbw.mono (by simp))
    have hs1 : w.heap.size < w1.heap.size := by have := hbw.size; simp at this; omega
    have HR1 := Aside0.mk (Kd.C_below hr hb1)
    have HBK := Aside0.mk hbk
    have HG := Aside0.mk g0
    have HB1 := Aside0.mk hb1
    have HS1 := Aside0.mk hs1
    clear hbw hg hbk g0 hb1 hs1 hr
    go_wp2_with fail
    refine (tick_fn at_ _).mono ?_
    rintro e w2 ⟨rfl, rfl⟩
    obtain ⟨W2, hW2⟩ : ∃ W2, w1.alloc (.cells #[.int .i64 at_, .string key, .int .i64 cost, .int .i64 0] 42 (0, 0)) = W2 := ⟨_, rfl⟩
    obtain ⟨gb, hgb⟩ : ∃ gb, w1.heap.size = gb := ⟨_, rfl⟩
    have hb12 : Below w1.heap.size w1 W2 := by rw [← hW2]; exact (Below.refl _ w1).alloc (Nat.le_refl _) _
    have x2 : W2.heap[gb]? = some (.cells #[.int .i64 at_, .string key, .int .i64 cost, .int .i64 0] 42 (0, 0)) := by rw [← hW2, ← hgb]; exact heap_alloc_new w1 _
    have hs2 : gb < W2.heap.size := by rw [← hW2, ← hgb]; simp
    have g2 := (hb12.block _ HS1.out).trans HG.out
    have hr2 := Kd.C_below HR1.out hb12
    have HBK3 := Aside0.mk (HBK.out.below hb12)
    have HB3 := Aside0.mk (HB1.out.trans (hb12.mono HB1.out.size))
    have hwg : w.heap.size < gb := by rw [← hgb]; exact HS1.out
    rw [hW2, hgb]
    clear hW2 hb12 HBK HG HB1 HR1 hgb HS1
    have G3 := Aside0.mk g2
    have X3 := Aside0.mk x2
    have HS3 := Aside0.mk hs2
    have r0 : W2.cell? ⟨gb, 0, none⟩ = some (.int .i64 at_) := by rw [cell_of_row W2 _ 0 _ _ _ x2]; rfl
    have r1 : W2.cell? ⟨gb, 1, none⟩ = some (.string key) := by rw [cell_of_row W2 _ 1 _ _ _ x2]; rfl
    have r2 : W2.cell? ⟨gb, 2, none⟩ = some (.int .i64 cost) := by rw [cell_of_row W2 _ 2 _ _ _ x2]; rfl
    have r3 : W2.cell? ⟨gb, 3, none⟩ = some (.int .i64 0) := by rw [cell_of_row W2 _ 3 _ _ _ x2]; rfl
    clear x2 hs2
    by_cases ht : tickB at_ = true
    · rw [ht]
      by_cases hl0 : 0 < l.length
      · obtain ⟨ad, eA, c0, _, _, _⟩ := at_T42 hr2 ((l.length : Int) - 1) (by omega) (by omega)
        subst eA
        have hLT : lastTick l = (rd_T42 l ((l.length : Int) - 1)).f0 := rfl
        rw [← hLT, show ((l.length : Int) - 1).toNat = l.length - 1 from by omega] at c0
        have i0 : (0 : Int) ≤ (l.length : Int) - 1 := by omega
        have i1 : (l.length : Int) - 1 < (l.length : Int) := by omega
        have hl0' : (0 : Int) < (l.length : Int) := by omega
        clear hLT
        by_cases hlt : at_ < lastTick l
        · have hout : DueX a0_0 a0_1 a0_2 a0_3 a0_4 a0_5 a0_6 a0_7 a0_8 a0_9 l at_ key cost = (0, 60) := by rw [DueX, if_pos HZ.out, if_pos (by simp [ht, early, hl0, hlt])]
          have HOUT := Aside0.mk hout
          clear hout ht hright hr2 g2
          generalize lastTick l = lt at c0 hlt
          go_wp2_with fail
          refine ⟨rfl, _, results_tmp2 rfl _ _ _, by rw [HOUT.out]; rfl, HB3.out⟩
        · have hE : (tickB at_ && early l at_) = false := by simp [early, hlt]
          generalize lastTick l = lt at c0 hlt
          clear ht hr2
          go_wp2_with fail
          clear g2
          refine (record_Right.calls at_ key cost 0 (recE ⟨at_, key, cost, 0⟩) _ (record_Right_eq at_ key cost 0)).mono ?_
          rintro e w4 ⟨rfl, hb4⟩
          have g4 := (hb4.block _ (by have := HS3.out; omega)).trans G3.out
          have x4 := (hb4.block _ HS3.out).trans X3.out
          have hb34 : Below w.heap.size w w4 := HB3.out.trans (hb4.mono HB3.out.size)
          have hbk4 := HBK3.out.below hb4
          have hs4 := Nat.lt_of_lt_of_le HS3.out hb4.size
          clear hb4 G3 X3 HB3 HBK3 HS3
          have HBK4 := Aside0.mk hbk4
          have HB4 := Aside0.mk hb34
          clear hbk4 hb34
          by_cases he : recE ⟨at_, key, cost, 0⟩ = 0
          · have hout : DueX a0_0 a0_1 a0_2 a0_3 a0_4 a0_5 a0_6 a0_7 a0_8 a0_9 l at_ key cost = (dueX a0_0 a0_1 a0_2 a0_3 a0_4 a0_5 a0_6 l at_ key cost, 0) := by rw [DueX, if_pos HZ.out, if_neg (by rw [hE]; decide), if_pos he]
            have HOUT := Aside0.mk hout
            obtain ⟨t0, t1, k1, k2, c1, c2, _, _⟩ := recE_zero he
            rw [he]
            have hks : key.size ≤ maxLen := by simp only [maxLen]; simp only at k2; omega
            have r0 : w4.cell? ⟨gb, 0, none⟩ = some (.int .i64 at_) := by rw [cell_of_row w4 _ 0 _ _ _ x4]; rfl
            have r1 : w4.cell? ⟨gb, 1, none⟩ = some (.string key) := by rw [cell_of_row w4 _ 1 _ _ _ x4]; rfl
            have r2 : w4.cell? ⟨gb, 2, none⟩ = some (.int .i64 cost) := by rw [cell_of_row w4 _ 2 _ _ _ x4]; rfl
            have r3 : w4.cell? ⟨gb, 3, none⟩ = some (.int .i64 0) := by rw [cell_of_row w4 _ 3 _ _ _ x4]; rfl
            clear hout he x4 hright
            go_wp2_with (first | ((with_reducible refine gload 23 rfl ?_); refine wpList_load_blk rfl 23 _ rfl w.heap.size _ 23 _ rfl g4 _ Try.underlying23 rfl info23 ?_) | fail)
            refine (due_any a0_0 a0_1 a0_2 a0_3 a0_4 a0_5 a0_6 a0_7 a0_8 a0_9 b l at_ key cost 0 _ HBK4.out hpol.1 hpol.2.1 hpol.2.2.1 hrec t0 t1 hks c1 c2 hllen).mono ?_
            rintro e w5 ⟨rfl, hb5⟩
            have HB5 := Aside0.mk (HB4.out.trans (hb5.mono HB4.out.size))
            clear hb5
            go_wp2_with fail
            refine ⟨rfl, _, results_tmp2 rfl _ _ _, by rw [HOUT.out]; rfl, HB5.out⟩
          · have hout : DueX a0_0 a0_1 a0_2 a0_3 a0_4 a0_5 a0_6 a0_7 a0_8 a0_9 l at_ key cost = (0, recE ⟨at_, key, cost, 0⟩) := by rw [DueX, if_pos HZ.out, if_neg (by rw [hE]; decide), if_neg he]
            have HOUT := Aside0.mk hout
            generalize recE ⟨at_, key, cost, 0⟩ = er at he HOUT ⊢
            clear hout x4 g4 hright
            go_wp2_with fail
            refine ⟨rfl, _, results_tmp2 rfl _ _ _, by rw [HOUT.out]; rfl, HB4.out⟩
      · have hE : (tickB at_ && early l at_) = false := by simp [early, hl0]
        have hn0 : l.length = 0 := by omega
        clear ht hr2
        go_wp2_with fail
        clear g2
        refine (record_Right.calls at_ key cost 0 (recE ⟨at_, key, cost, 0⟩) _ (record_Right_eq at_ key cost 0)).mono ?_
        rintro e w4 ⟨rfl, hb4⟩
        have g4 := (hb4.block _ (by have := HS3.out; omega)).trans G3.out
        have x4 := (hb4.block _ HS3.out).trans X3.out
        have hb34 : Below w.heap.size w w4 := HB3.out.trans (hb4.mono HB3.out.size)
        have hbk4 := HBK3.out.below hb4
        have hs4 := Nat.lt_of_lt_of_le HS3.out hb4.size
        clear hb4 G3 X3 HB3 HBK3 HS3
        have HBK4 := Aside0.mk hbk4
        have HB4 := Aside0.mk hb34
        clear hbk4 hb34
        by_cases he : recE ⟨at_, key, cost, 0⟩ = 0
        · have hout : DueX a0_0 a0_1 a0_2 a0_3 a0_4 a0_5 a0_6 a0_7 a0_8 a0_9 l at_ key cost = (dueX a0_0 a0_1 a0_2 a0_3 a0_4 a0_5 a0_6 l at_ key cost, 0) := by rw [DueX, if_pos HZ.out, if_neg (by rw [hE]; decide), if_pos he]
          have HOUT := Aside0.mk hout
          obtain ⟨t0, t1, k1, k2, c1, c2, _, _⟩ := recE_zero he
          rw [he]
          have hks : key.size ≤ maxLen := by simp only [maxLen]; simp only at k2; omega
          have r0 : w4.cell? ⟨gb, 0, none⟩ = some (.int .i64 at_) := by rw [cell_of_row w4 _ 0 _ _ _ x4]; rfl
          have r1 : w4.cell? ⟨gb, 1, none⟩ = some (.string key) := by rw [cell_of_row w4 _ 1 _ _ _ x4]; rfl
          have r2 : w4.cell? ⟨gb, 2, none⟩ = some (.int .i64 cost) := by rw [cell_of_row w4 _ 2 _ _ _ x4]; rfl
          have r3 : w4.cell? ⟨gb, 3, none⟩ = some (.int .i64 0) := by rw [cell_of_row w4 _ 3 _ _ _ x4]; rfl
          clear hout he x4 hright
          go_wp2_with (first | ((with_reducible refine gload 23 rfl ?_); refine wpList_load_blk rfl 23 _ rfl w.heap.size _ 23 _ rfl g4 _ Try.underlying23 rfl info23 ?_) | fail)
          refine (due_any a0_0 a0_1 a0_2 a0_3 a0_4 a0_5 a0_6 a0_7 a0_8 a0_9 b l at_ key cost 0 _ HBK4.out hpol.1 hpol.2.1 hpol.2.2.1 hrec t0 t1 hks c1 c2 hllen).mono ?_
          rintro e w5 ⟨rfl, hb5⟩
          have HB5 := Aside0.mk (HB4.out.trans (hb5.mono HB4.out.size))
          clear hb5
          go_wp2_with fail
          refine ⟨rfl, _, results_tmp2 rfl _ _ _, by rw [HOUT.out]; rfl, HB5.out⟩
        · have hout : DueX a0_0 a0_1 a0_2 a0_3 a0_4 a0_5 a0_6 a0_7 a0_8 a0_9 l at_ key cost = (0, recE ⟨at_, key, cost, 0⟩) := by rw [DueX, if_pos HZ.out, if_neg (by rw [hE]; decide), if_neg he]
          have HOUT := Aside0.mk hout
          generalize recE ⟨at_, key, cost, 0⟩ = er at he HOUT ⊢
          clear hout x4 g4 hright
          go_wp2_with fail
          refine ⟨rfl, _, results_tmp2 rfl _ _ _, by rw [HOUT.out]; rfl, HB4.out⟩
    · have hE : (tickB at_ && early l at_) = false := by simp [ht]
      have hf : tickB at_ = false := by simpa using ht
      rw [hf]
      clear ht hf hr2
      go_wp2_with fail
      clear g2
      refine (record_Right.calls at_ key cost 0 (recE ⟨at_, key, cost, 0⟩) _ (record_Right_eq at_ key cost 0)).mono ?_
      rintro e w4 ⟨rfl, hb4⟩
      have g4 := (hb4.block _ (by have := HS3.out; omega)).trans G3.out
      have x4 := (hb4.block _ HS3.out).trans X3.out
      have hb34 : Below w.heap.size w w4 := HB3.out.trans (hb4.mono HB3.out.size)
      have hbk4 := HBK3.out.below hb4
      have hs4 := Nat.lt_of_lt_of_le HS3.out hb4.size
      clear hb4 G3 X3 HB3 HBK3 HS3
      have HBK4 := Aside0.mk hbk4
      have HB4 := Aside0.mk hb34
      clear hbk4 hb34
      by_cases he : recE ⟨at_, key, cost, 0⟩ = 0
      · have hout : DueX a0_0 a0_1 a0_2 a0_3 a0_4 a0_5 a0_6 a0_7 a0_8 a0_9 l at_ key cost = (dueX a0_0 a0_1 a0_2 a0_3 a0_4 a0_5 a0_6 l at_ key cost, 0) := by rw [DueX, if_pos HZ.out, if_neg (by rw [hE]; decide), if_pos he]
        have HOUT := Aside0.mk hout
        obtain ⟨t0, t1, k1, k2, c1, c2, _, _⟩ := recE_zero he
        rw [he]
        have hks : key.size ≤ maxLen := by simp only [maxLen]; simp only at k2; omega
        have r0 : w4.cell? ⟨gb, 0, none⟩ = some (.int .i64 at_) := by rw [cell_of_row w4 _ 0 _ _ _ x4]; rfl
        have r1 : w4.cell? ⟨gb, 1, none⟩ = some (.string key) := by rw [cell_of_row w4 _ 1 _ _ _ x4]; rfl
        have r2 : w4.cell? ⟨gb, 2, none⟩ = some (.int .i64 cost) := by rw [cell_of_row w4 _ 2 _ _ _ x4]; rfl
        have r3 : w4.cell? ⟨gb, 3, none⟩ = some (.int .i64 0) := by rw [cell_of_row w4 _ 3 _ _ _ x4]; rfl
        clear hout he x4 hright
        go_wp2_with (first | ((with_reducible refine gload 23 rfl ?_); refine wpList_load_blk rfl 23 _ rfl w.heap.size _ 23 _ rfl g4 _ Try.underlying23 rfl info23 ?_) | fail)
        refine (due_any a0_0 a0_1 a0_2 a0_3 a0_4 a0_5 a0_6 a0_7 a0_8 a0_9 b l at_ key cost 0 _ HBK4.out hpol.1 hpol.2.1 hpol.2.2.1 hrec t0 t1 hks c1 c2 hllen).mono ?_
        rintro e w5 ⟨rfl, hb5⟩
        have HB5 := Aside0.mk (HB4.out.trans (hb5.mono HB4.out.size))
        clear hb5
        go_wp2_with fail
        refine ⟨rfl, _, results_tmp2 rfl _ _ _, by rw [HOUT.out]; rfl, HB5.out⟩
      · have hout : DueX a0_0 a0_1 a0_2 a0_3 a0_4 a0_5 a0_6 a0_7 a0_8 a0_9 l at_ key cost = (0, recE ⟨at_, key, cost, 0⟩) := by rw [DueX, if_pos HZ.out, if_neg (by rw [hE]; decide), if_neg he]
        have HOUT := Aside0.mk hout
        generalize recE ⟨at_, key, cost, 0⟩ = er at he HOUT ⊢
        clear hout x4 g4 hright
        go_wp2_with fail
        refine ⟨rfl, _, results_tmp2 rfl _ _ _, by rw [HOUT.out]; rfl, HB4.out⟩
  · have hout : DueX a0_0 a0_1 a0_2 a0_3 a0_4 a0_5 a0_6 a0_7 a0_8 a0_9 l at_ key cost = (0, rightX a0_0 a0_1 a0_2 a0_3 a0_4 a0_5 a0_6 a0_7 a0_8 a0_9 l) := by rw [DueX, if_neg hz]
    rw [hout]
    clear hout
    generalize rightX a0_0 a0_1 a0_2 a0_3 a0_4 a0_5 a0_6 a0_7 a0_8 a0_9 l = er at hright hz
    refine calls_of_wp Try.func14 rfl ?_
    simp only [Try.ntmps14, List.size_toArray, List.length_cons, List.length_nil, Nat.reduceAdd, Nat.reduceSub, Array.replicate_succ, Array.replicate_zero, List.push_toArray, List.append_toArray, List.nil_append, List.cons_append]
    go_wp2_with fail
    refine (read_bad (l.length + 1) a0_0 a0_1 a0_2 a0_3 a0_4 a0_5 a0_6 a0_7 a0_8 a0_9 A c l er _ (Kd.C_alloc hr _) hc hright hz).mono ?_
    rintro e w1 ⟨rfl, hbw⟩
    have hb1 : Below w.heap.size w w1 := ((Below.refl _ w).alloc (Nat.le_refl _) _).trans (hbw.mono (by simp))
    clear hbw hright hr
    go_wp2_with fail
    refine ⟨rfl, _, results_tmp2 rfl _ _ _, rfl, hb1⟩
end Go.Proofs.Ytmlpahjmebfgbaa.Own
