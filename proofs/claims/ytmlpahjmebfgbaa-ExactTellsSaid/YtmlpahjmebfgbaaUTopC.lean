/- Lemmas for a claim of this seat: texts of this session and of the kit's print, without what this claim does not use. -/
import Derived.Test.YtmlpahjmebfgbaaUDue
section
namespace Go.Proofs.Ytmlpahjmebfgbaa.Own
open Go.RowKit Go.Proofs.YtmlpahjmebfgbaaW.PrintWords Go.Proofs.YtmlpahjmebfgbaaW.PrintLast Go.Proofs.YtmlpahjmebfgbaaW.PrintMore Go.Proofs.Ytmlpahjmebfgbaa.PEx
set_option linter.unusedVariables false
set_option linter.unusedSimpArgs false

/-- The tick of a list's last record. -/
def lastTick (l : List S42) : Int := (rd_T42 l ((l.length : Int) - 1)).f0
/-- Is the request earlier than the last record? -/
def early (l : List S42) (at_ : Int) : Bool := decide (0 < l.length) && decide (at_ < lastTick l)
def DueX (kind cap num den width count keys slots every seg : Int) (l : List S42) (at_ : Int) (key : ByteArray) (cost : Int) : Int × Int :=
  if rightX kind cap num den width count keys slots every seg l = 0 then
    (if (tickB at_ && early l at_) = true then (0, 60)
     else if recE ⟨at_, key, cost, 0⟩ = 0 then (dueX kind cap num den width count keys l at_ key cost, 0) else (0, recE ⟨at_, key, cost, 0⟩))
  else (0, rightX kind cap num den width count keys slots every seg l)

set_option maxRecDepth 100000 in
set_option maxHeartbeats 8000000 in
theorem Due_fn (a0_0 a0_1 a0_2 a0_3 a0_4 a0_5 a0_6 a0_7 a0_8 a0_9 : Int) (A : Option Addr) (c : Nat) (l : List S42) (at_ : Int) (key : ByteArray) (cost : Int) (w : World) (hr : Kd.C k42 w A l.length l) (hc : l.length ≤ c) :
    Calls Try.prog 14 #[.agg #[.int .i64 a0_0, .int .i64 a0_1, .int .i64 a0_2, .int .i64 a0_3, .int .i64 a0_4, .int .i64 a0_5, .int .i64 a0_6, .int .i64 a0_7, .int .i64 a0_8, .int .i64 a0_9], .slice A l.length c, .int .i64 at_, .string key, .int .i64 cost] w fun e w' =>
      e = .returned (.tuple #[.int .i64 (DueX a0_0 a0_1 a0_2 a0_3 a0_4 a0_5 a0_6 a0_7 a0_8 a0_9 l at_ key cost).1, .int .i64 (DueX a0_0 a0_1 a0_2 a0_3 a0_4 a0_5 a0_6 a0_7 a0_8 a0_9 l at_ key cost).2]) ∧ Below w.heap.size w w' := by
  have hright := right_eq a0_0 a0_1 a0_2 a0_3 a0_4 a0_5 a0_6 a0_7 a0_8 a0_9 l
  have hll9 := hr.2.1
  by_cases hz : rightX a0_0 a0_1 a0_2 a0_3 a0_4 a0_5 a0_6 a0_7 a0_8 a0_9 l = 0
  · rw [hz] at hright
    have hg := right_good.1 hz
    have hrec := good_recs hg
    have hpol := pol_ok hg.pol
    have hllen := hg.len
    have HZ := Aside0.mk hz
    clear hz
    refine calls_of_wp Try.func14 rfl ?_
    simp only [Try.ntmps14, List.size_toArray, List.length_cons, List.length_nil, Nat.reduceAdd, Nat.reduceSub, Array.replicate_succ, Array.replicate_zero, List.push_toArray, List.append_toArray, List.nil_append, List.cons_append]
    go_wp2_with fail
    refine (read_ok (l.length + 1) a0_0 a0_1 a0_2 a0_3 a0_4 a0_5 a0_6 a0_7 a0_8 a0_9 A c l _ (Kd.C_alloc hr _) hc hright hg.len (fun r h => (hrec r h).2)).mono ?_
    rintro e w1 ⟨b, rfl, hb, hbk, hbw⟩
    have g0 := (hbw.block w.heap.size (by simp)).trans (heap_alloc_new w _)
    have hb1 : Below w.heap.size w w1 := ((Below.refl _ w).alloc (Nat.le_refl _) _).trans (hbw.mono (by simp))
    have hs1 : w.heap.size < w1.heap.size := by have := hbw.size; simp at this; omega
    have HR1 := Aside0.mk (Kd.C_below hr hb1)
    have HBK := Aside0.mk hbk
    have HG := Aside0.mk g0
    have HB1 := Aside0.mk hb1
    have HS1 := Aside0.mk hs1
    clear hbw hg hbk g0 hb1 hs1 hr
    go_wp2_with fail
    refine (tick_fn at_ _).mono ?_
    rintro e w2 ⟨rfl, rfl⟩
    obtain ⟨W2, hW2⟩ : ∃ W2, w1.alloc (.cells #[.int .i64 at_, .string key, .int .i64 cost, .int .i64 0] 42 (0, 0)) = W2 := ⟨_, rfl⟩
    obtain ⟨gb, hgb⟩ : ∃ gb, w1.heap.size = gb := ⟨_, rfl⟩
    have hb12 : Below w1.heap.size w1 W2 := by rw [← hW2]; exact (Below.refl _ w1).alloc (Nat.le_refl _) _
    have x2 : W2.heap[gb]? = some (.cells #[.int .i64 at_, .string key, .int .i64 cost, .int .i64 0] 42 (0, 0)) := by rw [← hW2, ← hgb]; exact heap_alloc_new w1 _
    have hs2 : gb < W2.heap.size := by rw [← hW2, ← hgb]; simp
    have g2 := (hb12.block _ HS1.out).trans HG.out
    have hr2 := Kd.C_below HR1.out hb12
    have HBK3 := Aside0.mk (HBK.out.below hb12)
    have HB3 := Aside0.mk (HB1.out.trans (hb12.mono HB1.out.size))
    have hwg : w.heap.size < gb := by rw [← hgb]; exact HS1.out
    rw [hW2, hgb]
    clear hW2 hb12 HBK HG HB1 HR1 hgb HS1
    have G3 := Aside0.mk g2
    have X3 := Aside0.mk x2
    have HS3 := Aside0.mk hs2
    have r0 : W2.cell? ⟨gb, 0, none⟩ = some (.int .i64 at_) := by rw [cell_of_row W2 _ 0 _ _ _ x2]; rfl
    have r1 : W2.cell? ⟨gb, 1, none⟩ = some (.string key) := by rw [cell_of_row W2 _ 1 _ _ _ x2]; rfl
    have r2 : W2.cell? ⟨gb, 2, none⟩ = some (.int .i64 cost) := by rw [cell_of_row W2 _ 2 _ _ _ x2]; rfl
    have r3 : W2.cell? ⟨gb, 3, none⟩ = some (.int .i64 0) := by rw [cell_of_row W2 _ 3 _ _ _ x2]; rfl
    clear x2 hs2
    by_cases ht : tickB at_ = true
    · rw [ht]
      by_cases hl0 : 0 < l.length
      · obtain ⟨ad, eA, c0, _, _, _⟩ := at_T42 hr2 ((l.length : Int) - 1) (by omega) (by omega)
        subst eA
        have hLT : lastTick l = (rd_T42 l ((l.length : Int) - 1)).f0 := rfl
        rw [← hLT, show ((l.length : Int) - 1).toNat = l.length - 1 from by omega] at c0
        have i0 : (0 : Int) ≤ (l.length : Int) - 1 := by omega
        have i1 : (l.length : Int) - 1 < (l.length : Int) := by omega
        have hl0' : (0 : Int) < (l.length : Int) := by omega
        clear hLT
        by_cases hlt : at_ < lastTick l
        · have hout : DueX a0_0 a0_1 a0_2 a0_3 a0_4 a0_5 a0_6 a0_7 a0_8 a0_9 l at_ key cost = (0, 60) := by rw [DueX, if_pos HZ.out, if_pos (by simp [ht, early, hl0, hlt])]
          have HOUT := Aside0.mk hout
          clear hout ht hright hr2 g2
          generalize lastTick l = lt at c0 hlt
          go_wp2_with fail
          refine ⟨rfl, _, results_tmp2 rfl _ _ _, by rw [HOUT.out]; rfl, HB3.out⟩
        · have hE : (tickB at_ && early l at_) = false := by simp [early, hlt]
          generalize lastTick l = lt at c0 hlt
          clear ht hr2
          go_wp2_with fail
          clear g2
          refine (record_Right.calls at_ key cost 0 (recE ⟨at_, key, cost, 0⟩) _ (record_Right_eq at_ key cost 0)).mono ?_
          rintro e w4 ⟨rfl, hb4⟩
          have g4 := (hb4.block _ (by have := HS3.out; omega)).trans G3.out
          have x4 := (hb4.block _ HS3.out).trans X3.out
          have hb34 : Below w.heap.size w w4 := HB3.out.trans (hb4.mono HB3.out.size)
          have hbk4 := HBK3.out.below hb4
          have hs4 := Nat.lt_of_lt_of_le HS3.out hb4.size
          clear hb4 G3 X3 HB3 HBK3 HS3
          have HBK4 := Aside0.mk hbk4
          have HB4 := Aside0.mk hb34
          clear hbk4 hb34
          by_cases he : recE ⟨at_, key, cost, 0⟩ = 0
          · have hout : DueX a0_0 a0_1 a0_2 a0_3 a0_4 a0_5 a0_6 a0_7 a0_8 a0_9 l at_ key cost = (dueX a0_0 a0_1 a0_2 a0_3 a0_4 a0_5 a0_6 l at_ key cost, 0) := by rw [DueX, if_pos HZ.out, if_neg (by rw [hE]; decide), if_pos he]
            have HOUT := Aside0.mk hout
            obtain ⟨t0, t1, k1, k2, c1, c2, _, _⟩ := recE_zero he
            rw [he]
            have hks : key.size ≤ maxLen := by simp only [maxLen]; simp only at k2; omega
            have r0 : w4.cell? ⟨gb, 0, none⟩ = some (.int .i64 at_) := by rw [cell_of_row w4 _ 0 _ _ _ x4]; rfl
            have r1 : w4.cell? ⟨gb, 1, none⟩ = some (.string key) := by rw [cell_of_row w4 _ 1 _ _ _ x4]; rfl
            have r2 : w4.cell? ⟨gb, 2, none⟩ = some (.int .i64 cost) := by rw [cell_of_row w4 _ 2 _ _ _ x4]; rfl
            have r3 : w4.cell? ⟨gb, 3, none⟩ = some (.int .i64 0) := by rw [cell_of_row w4 _ 3 _ _ _ x4]; rfl
            clear hout he x4 hright
            go_wp2_with (first | ((with_reducible refine gload 23 rfl ?_); refine wpList_load_blk rfl 23 _ rfl w.heap.size _ 23 _ rfl g4 _ Try.underlying23 rfl info23 ?_) | fail)
            refine (due_any a0_0 a0_1 a0_2 a0_3 a0_4 a0_5 a0_6 a0_7 a0_8 a0_9 b l at_ key cost 0 _ HBK4.out hpol.1 hpol.2.1 hpol.2.2.1 hrec t0 t1 hks c1 c2 hllen).mono ?_
            rintro e w5 ⟨rfl, hb5⟩
            have HB5 := Aside0.mk (HB4.out.trans (hb5.mono HB4.out.size))
            clear hb5
            go_wp2_with fail
            refine ⟨rfl, _, results_tmp2 rfl _ _ _, by rw [HOUT.out]; rfl, HB5.out⟩
          · have hout : DueX a0_0 a0_1 a0_2 a0_3 a0_4 a0_5 a0_6 a0_7 a0_8 a0_9 l at_ key cost = (0, recE ⟨at_, key, cost, 0⟩) := by rw [DueX, if_pos HZ.out, if_neg (by rw [hE]; decide), if_neg he]
            have HOUT := Aside0.mk hout
            generalize recE ⟨at_, key, cost, 0⟩ = er at he HOUT ⊢
            clear hout x4 g4 hright
            go_wp2_with fail
            refine ⟨rfl, _, results_tmp2 rfl _ _ _, by rw [HOUT.out]; rfl, HB4.out⟩
      · have hE : (tickB at_ && early l at_) = false := by simp [early, hl0]
        have hn0 : l.length = 0 := by omega
        clear ht hr2
        go_wp2_with fail
        clear g2
        refine (record_Right.calls at_ key cost 0 (recE ⟨at_, key, cost, 0⟩) _ (record_Right_eq at_ key cost 0)).mono ?_
        rintro e w4 ⟨rfl, hb4⟩
        have g4 := (hb4.block _ (by have := HS3.out; omega)).trans G3.out
        have x4 := (hb4.block _ HS3.out).trans X3.out
        have hb34 : Below w.heap.size w w4 := HB3.out.trans (hb4.mono HB3.out.size)
        have hbk4 := HBK3.out.below hb4
        have hs4 := Nat.lt_of_lt_of_le HS3.out hb4.size
        clear hb4 G3 X3 HB3 HBK3 HS3
        have HBK4 := Aside0.mk hbk4
        have HB4 := Aside0.mk hb34
        clear hbk4 hb34
        by_cases he : recE ⟨at_, key, cost, 0⟩ = 0
        · have hout : DueX a0_0 a0_1 a0_2 a0_3 a0_4 a0_5 a0_6 a0_7 a0_8 a0_9 l at_ key cost = (dueX a0_0 a0_1 a0_2 a0_3 a0_4 a0_5 a0_6 l at_ key cost, 0) := by rw [DueX, if_pos HZ.out, if_neg (by rw [hE]; decide), if_pos he]
          have HOUT := Aside0.mk hout
          obtain ⟨t0, t1, k1, k2, c1, c2, _, _⟩ := recE_zero he
          rw [he]
          have hks : key.size ≤ maxLen := by simp only [maxLen]; simp only at k2; omega
          have r0 : w4.cell? ⟨gb, 0, none⟩ = some (.int .i64 at_) := by rw [cell_of_row w4 _ 0 _ _ _ x4]; rfl
          have r1 : w4.cell? ⟨gb, 1, none⟩ = some (.string key) := by rw [cell_of_row w4 _ 1 _ _ _ x4]; rfl
          have r2 : w4.cell? ⟨gb, 2, none⟩ = some (.int .i64 cost) := by rw [cell_of_row w4 _ 2 _ _ _ x4]; rfl
          have r3 : w4.cell? ⟨gb, 3, none⟩ = some (.int .i64 0) := by rw [cell_of_row w4 _ 3 _ _ _ x4]; rfl
          clear hout he x4 hright
          go_wp2_with (first | ((with_reducible refine gload 23 rfl ?_); refine wpList_load_blk rfl 23 _ rfl w.heap.size _ 23 _ rfl g4 _ Try.underlying23 rfl info23 ?_) | fail)
          refine (due_any a0_0 a0_1 a0_2 a0_3 a0_4 a0_5 a0_6 a0_7 a0_8 a0_9 b l at_ key cost 0 _ HBK4.out hpol.1 hpol.2.1 hpol.2.2.1 hrec t0 t1 hks c1 c2 hllen).mono ?_
          rintro e w5 ⟨rfl, hb5⟩
          have HB5 := Aside0.mk (HB4.out.trans (hb5.mono HB4.out.size))
          clear hb5
          go_wp2_with fail
          refine ⟨rfl, _, results_tmp2 rfl _ _ _, by rw [HOUT.out]; rfl, HB5.out⟩
        · have hout : DueX a0_0 a0_1 a0_2 a0_3 a0_4 a0_5 a0_6 a0_7 a0_8 a0_9 l at_ key cost = (0, recE ⟨at_, key, cost, 0⟩) := by rw [DueX, if_pos HZ.out, if_neg (by rw [hE]; decide), if_neg he]
          have HOUT := Aside0.mk hout
          generalize recE ⟨at_, key, cost, 0⟩ = er at he HOUT ⊢
          clear hout x4 g4 hright
          go_wp2_with fail
          refine ⟨rfl, _, results_tmp2 rfl _ _ _, by rw [HOUT.out]; rfl, HB4.out⟩
    · have hE : (tickB at_ && early l at_) = false := by simp [ht]
      have hf : tickB at_ = false := by simpa using ht
      rw [hf]
      clear ht hf hr2
      go_wp2_with fail
      clear g2
      refine (record_Right.calls at_ key cost 0 (recE ⟨at_, key, cost, 0⟩) _ (record_Right_eq at_ key cost 0)).mono ?_
      rintro e w4 ⟨rfl, hb4⟩
      have g4 := (hb4.block _ (by have := HS3.out; omega)).trans G3.out
      have x4 := (hb4.block _ HS3.out).trans X3.out
      have hb34 : Below w.heap.size w w4 := HB3.out.trans (hb4.mono HB3.out.size)
      have hbk4 := HBK3.out.below hb4
      have hs4 := Nat.lt_of_lt_of_le HS3.out hb4.size
      clear hb4 G3 X3 HB3 HBK3 HS3
      have HBK4 := Aside0.mk hbk4
      have HB4 := Aside0.mk hb34
      clear hbk4 hb34
      by_cases he : recE ⟨at_, key, cost, 0⟩ = 0
      · have hout : DueX a0_0 a0_1 a0_2 a0_3 a0_4 a0_5 a0_6 a0_7 a0_8 a0_9 l at_ key cost = (dueX a0_0 a0_1 a0_2 a0_3 a0_4 a0_5 a0_6 l at_ key cost, 0) := by rw [DueX, if_pos HZ.out, if_neg (by rw [hE]; decide), if_pos he]
        have HOUT := Aside0.mk hout
        obtain ⟨t0, t1, k1, k2, c1, c2, _, _⟩ := recE_zero he
        rw [he]
        have hks : key.size ≤ maxLen := by simp only [maxLen]; simp only at k2; omega
        have r0 : w4.cell? ⟨gb, 0, none⟩ = some (.int .i64 at_) := by rw [cell_of_row w4 _ 0 _ _ _ x4]; rfl
        have r1 : w4.cell? ⟨gb, 1, none⟩ = some (.string key) := by rw [cell_of_row w4 _ 1 _ _ _ x4]; rfl
        have r2 : w4.cell? ⟨gb, 2, none⟩ = some (.int .i64 cost) := by rw [cell_of_row w4 _ 2 _ _ _ x4]; rfl
        have r3 : w4.cell? ⟨gb, 3, none⟩ = some (.int .i64 0) := by rw [cell_of_row w4 _ 3 _ _ _ x4]; rfl
        clear hout he x4 hright
        go_wp2_with (first | ((with_reducible refine gload 23 rfl ?_); refine wpList_load_blk rfl 23 _ rfl w.heap.size _ 23 _ rfl g4 _ Try.underlying23 rfl info23 ?_) | fail)
        refine (due_any a0_0 a0_1 a0_2 a0_3 a0_4 a0_5 a0_6 a0_7 a0_8 a0_9 b l at_ key cost 0 _ HBK4.out hpol.1 hpol.2.1 hpol.2.2.1 hrec t0 t1 hks c1 c2 hllen).mono ?_
        rintro e w5 ⟨rfl, hb5⟩
        have HB5 := Aside0.mk (HB4.out.trans (hb5.mono HB4.out.size))
        clear hb5
        go_wp2_with fail
        refine ⟨rfl, _, results_tmp2 rfl _ _ _, by rw [HOUT.out]; rfl, HB5.out⟩
      · have hout : DueX a0_0 a0_1 a0_2 a0_3 a0_4 a0_5 a0_6 a0_7 a0_8 a0_9 l at_ key cost = (0, recE ⟨at_, key, cost, 0⟩) := by rw [DueX, if_pos HZ.out, if_neg (by rw [hE]; decide), if_neg he]
        have HOUT := Aside0.mk hout
        generalize recE ⟨at_, key, cost, 0⟩ = er at he HOUT ⊢
        clear hout x4 g4 hright
        go_wp2_with fail
        refine ⟨rfl, _, results_tmp2 rfl _ _ _, by rw [HOUT.out]; rfl, HB4.out⟩
  · have hout : DueX a0_0 a0_1 a0_2 a0_3 a0_4 a0_5 a0_6 a0_7 a0_8 a0_9 l at_ key cost = (0, rightX a0_0 a0_1 a0_2 a0_3 a0_4 a0_5 a0_6 a0_7 a0_8 a0_9 l) := by rw [DueX, if_neg hz]
    rw [hout]
    clear hout
    generalize rightX a0_0 a0_1 a0_2 a0_3 a0_4 a0_5 a0_6 a0_7 a0_8 a0_9 l = er at hright hz
    refine calls_of_wp Try.func14 rfl ?_
    simp only [Try.ntmps14, List.size_toArray, List.length_cons, List.length_nil, Nat.reduceAdd, Nat.reduceSub, Array.replicate_succ, Array.replicate_zero, List.push_toArray, List.append_toArray, List.nil_append, List.cons_append]
    go_wp2_with fail
    refine (read_bad (l.length + 1) a0_0 a0_1 a0_2 a0_3 a0_4 a0_5 a0_6 a0_7 a0_8 a0_9 A c l er _ (Kd.C_alloc hr _) hc hright hz).mono ?_
    rintro e w1 ⟨rfl, hbw⟩
    have hb1 : Below w.heap.size w w1 := ((Below.refl _ w).alloc (Nat.le_refl _) _).trans (hbw.mono (by simp))
    clear hbw hright hr
    go_wp2_with fail
    refine ⟨rfl, _, results_tmp2 rfl _ _ _, rfl, hb1⟩
end Go.Proofs.Ytmlpahjmebfgbaa.Own
end
section
namespace Go.Proofs.Ytmlpahjmebfgbaa.Own
open Go.RowKit Go.Proofs.YtmlpahjmebfgbaaW.PrintWords Go.Proofs.YtmlpahjmebfgbaaW.PrintLast Go.Proofs.YtmlpahjmebfgbaaW.PrintMore Go.Proofs.Ytmlpahjmebfgbaa.PEx
set_option linter.unusedVariables false
set_option linter.unusedSimpArgs false

/-- A record with the verdict that is due behind others. -/
def dueR (kind cap num den width count keys : Int) (xs : List S42) (r : S42) : S42 := ⟨r.f0, r.f1, r.f2, dueX kind cap num den width count keys xs r.f0 r.f1 r.f2⟩
def runV (kind cap num den width count keys : Int) (l : List S42) : List S42 := l.foldl (fun xs r => xs ++ [dueR kind cap num den width count keys xs r]) []
theorem runV_snoc (kind cap num den width count keys : Int) (l : List S42) (r : S42) : runV kind cap num den width count keys (l ++ [r]) = runV kind cap num den width count keys l ++ [dueR kind cap num den width count keys (runV kind cap num den width count keys l) r] := by
  simp [runV]
theorem runV_length (kind cap num den width count keys : Int) (l : List S42) : (runV kind cap num den width count keys l).length = l.length := by
  refine snocInd (P := fun l => (runV kind cap num den width count keys l).length = l.length) rfl (fun l r ih => ?_) l
  rw [runV_snoc]; simp [ih]
theorem runV_ok (kind cap num den width count keys : Int) (l : List S42) (h : ∀ r ∈ l, okR r ∧ r.f1.size ≤ maxLen) : ∀ r ∈ runV kind cap num den width count keys l, okR r ∧ r.f1.size ≤ maxLen := by
  revert h
  refine snocInd (P := fun l => (∀ r ∈ l, okR r ∧ r.f1.size ≤ maxLen) → ∀ r ∈ runV kind cap num den width count keys l, okR r ∧ r.f1.size ≤ maxLen) (fun _ r h => by simp [runV] at h) (fun l x ih h => ?_) l
  intro r hr
  rw [runV_snoc] at hr
  rcases List.mem_append.1 hr with hr | hr
  · exact ih (fun r hr => h r (by simp [hr])) r hr
  · simp only [List.mem_singleton] at hr
    subst hr
    exact h x (by simp)
def verdL (kind cap num den width count keys : Int) (l : List S42) : List Int := (runV kind cap num den width count keys l).map (·.f3)
def VerdictsX (kind cap num den width count keys slots every seg : Int) (l : List S42) : List Int × Int :=
  if rightX kind cap num den width count keys slots every seg l = 0 then (verdL kind cap num den width count keys l, 0) else ([], rightX kind cap num den width count keys slots every seg l)

theorem Book.appended {w w' : World} {b base : Nat} {ok : Nat → Prop} {xs : List S42} {v : Value} {is : List Int} (h : Book w b xs) (hR : Kd.R (Kd.int .i64) 3 w base ok v is) (hg : w.grownBy w' v.ownBlock) : Book w' b xs := by
  obtain ⟨h0, inner, hown, _⟩ := hR
  cases e : v.ownBlock with
  | none =>
    rw [e] at hg
    exact h.below ⟨hg.os, hg.tape, hg.output, hg.size, fun k hk => hg.block k hk (by simp)⟩
  | some g =>
    obtain ⟨cells, hc⟩ := own_typed hown g e
    rw [e] at hg
    exact h.grown hg hc (by decide)
theorem rec_appended {w w' : World} {base g : Nat} {ok : Nat → Prop} {v : Value} {is : List Int} {C : Array Value} (hb : w.heap[g]? = some (.cells C 42 (0, 0))) (hR : Kd.R (Kd.int .i64) 3 w base ok v is) (hg : w.grownBy w' v.ownBlock) : w'.heap[g]? = some (.cells C 42 (0, 0)) := by
  obtain ⟨h0, inner, hown, _⟩ := hR
  refine (hg.block g (Array.getElem?_eq_some_iff.1 hb).1 (fun e => ?_)).trans hb
  obtain ⟨cells, hc⟩ := own_typed hown g e.symm
  rw [hb] at hc
  injection hc with hc
  injection hc with h1 h2
  exact absurd h2 (by decide)

set_option maxRecDepth 100000 in
set_option maxHeartbeats 8000000 in
theorem Verdicts_fn (a0_0 a0_1 a0_2 a0_3 a0_4 a0_5 a0_6 a0_7 a0_8 a0_9 : Int) (A : Option Addr) (c : Nat) (l : List S42) (w : World) (hr : Kd.C k42 w A l.length l) (hc : l.length ≤ c) :
    Calls Try.prog 21 #[.agg #[.int .i64 a0_0, .int .i64 a0_1, .int .i64 a0_2, .int .i64 a0_3, .int .i64 a0_4, .int .i64 a0_5, .int .i64 a0_6, .int .i64 a0_7, .int .i64 a0_8, .int .i64 a0_9], .slice A l.length c] w fun e w' =>
      ∃ v, e = .returned (.tuple #[v, .int .i64 (VerdictsX a0_0 a0_1 a0_2 a0_3 a0_4 a0_5 a0_6 a0_7 a0_8 a0_9 l).2]) ∧ Kd.R (Kd.int .i64) 3 w' w.heap.size (fun _ => True) v (VerdictsX a0_0 a0_1 a0_2 a0_3 a0_4 a0_5 a0_6 a0_7 a0_8 a0_9 l).1 ∧ Below w.heap.size w w' := by
  have hright := right_eq a0_0 a0_1 a0_2 a0_3 a0_4 a0_5 a0_6 a0_7 a0_8 a0_9 l
  by_cases hz : rightX a0_0 a0_1 a0_2 a0_3 a0_4 a0_5 a0_6 a0_7 a0_8 a0_9 l = 0
  · rw [hz] at hright
    have hg := right_good.1 hz
    have hrec := good_recs hg
    have hpol := pol_ok hg.pol
    have hllen := hg.len
    have hrr := hg.recs
    have hout : VerdictsX a0_0 a0_1 a0_2 a0_3 a0_4 a0_5 a0_6 a0_7 a0_8 a0_9 l = (verdL a0_0 a0_1 a0_2 a0_3 a0_4 a0_5 a0_6 l, 0) := by rw [VerdictsX, if_pos hz]
    rw [hout]
    clear hout hz hg
    refine calls_of_wp Try.func21 rfl ?_
    simp only [Try.ntmps21, List.size_toArray, List.length_cons, List.length_nil, Nat.reduceAdd, Nat.reduceSub, Array.replicate_succ, Array.replicate_zero, List.push_toArray, List.append_toArray, List.nil_append, List.cons_append]
    go_wp2_with fail
    refine (exact_right.calls (l.length + 1) a0_0 a0_1 a0_2 a0_3 a0_4 a0_5 a0_6 a0_7 a0_8 a0_9 A c l 0 _ (Kd.C_alloc hr _) hc hright).mono ?_
    rintro e w1 ⟨rfl, hbw⟩
    have g0 := (hbw.block w.heap.size (by simp)).trans (heap_alloc_new w _)
    have hb1 : Below w.heap.size w w1 := ((Below.refl _ w).alloc (Nat.le_refl _) _).trans (hbw.mono (by simp))
    have hs1 : w.heap.size < w1.heap.size := by have := hbw.size; simp at this; omega
    have hmk : (Instr.makeMap 59 none).run Try.prog w1 = .ok (.map (some w1.heap.size)) (w1.alloc (.map #[] 0)) := run_makeMap 59 w1
    have HM := Aside0.mk (book_made w1)
    have HR := Aside0.mk hr
    have HG := Aside0.mk g0
    have HB := Aside0.mk hb1
    clear hbw hr hright g0 hb1
    go_wp2_with fail
    obtain ⟨W0, hW0⟩ : ∃ W0, w1.alloc (.map #[] 0) = W0 := ⟨_, rfl⟩
    rw [hW0] at HM ⊢
    have hb0 : Below w1.heap.size w1 W0 := by rw [← hW0]; exact (Below.refl _ w1).alloc (Nat.le_refl _) _
    have hs0 : W0.heap.size = w1.heap.size + 1 := by rw [← hW0]; simp
    have g2 := (hb0.block _ hs1).trans HG.out
    have hbw2 := HB.out.trans (hb0.mono HB.out.size)
    clear HB hmk hW0 HG hb0
    have HB := Aside0.mk hbw2
    have HG := Aside0.mk g2
    clear hbw2 g2
    obtain ⟨bm, hbm⟩ : ∃ bm, w1.heap.size = bm := ⟨_, rfl⟩
    rw [hbm] at HM hs0 hs1 ⊢
    clear hbm
    go_loopw [8, 20] (fun vo i wr => ∃ j : Nat, j ≤ l.length ∧ i = .int .i64 (j : Int) ∧ Aside0 (Book wr bm (runV a0_0 a0_1 a0_2 a0_3 a0_4 a0_5 a0_6 (l.take j)) ∧ Kd.R (Kd.int .i64) 3 wr W0.heap.size (fun k => W0.heap.size ≤ k) vo (verdL a0_0 a0_1 a0_2 a0_3 a0_4 a0_5 a0_6 (l.take j)) ∧ Keeps (fun k => k = bm) W0 wr)) (fun _ i _ => l.length - (intOf i).toNat)
    case atStart => exact ⟨0, by omega, rfl, ⟨by simpa [runV] using HM.out, Kd.R_nil _ _ _ _ _, Keeps.refl _ _⟩⟩
    case round =>
      obtain ⟨j, hj, rfl, BS⟩ := hrel
      clear HM
      by_cases hlt : j < l.length
      · obtain ⟨ad, eA, c0, c1, c2, c3⟩ := at_T42 HR.out (j : Int) (by omega) (by omega)
        subst eA
        have hcb : ∀ p : Addr, p.block < w.heap.size → wr.cell? p = w.cell? p := fun p hp => (BS.out.2.2.cell (by have := HB.out.size; omega) (by omega)).trans (HB.out.cell hp)
        replace c0 := (hcb _ (World.block_lt_of_cell? w _ c0)).trans c0
        replace c1 := (hcb _ (World.block_lt_of_cell? w _ c1)).trans c1
        replace c2 := (hcb _ (World.block_lt_of_cell? w _ c2)).trans c2
        replace c3 := (hcb _ (World.block_lt_of_cell? w _ c3)).trans c3
        simp only [Int.toNat_natCast] at c0 c1 c2 c3
        have i0 : (0 : Int) ≤ (j : Int) := by omega
        have i1 : (j : Int) < (l.length : Int) := by omega
        have HTK := Aside0.mk (take_rd l j hlt)
        have hmem : rd_T42 l (j : Int) ∈ l := by
          unfold rd_T42
          rw [Int.toNat_natCast, List.getD_eq_getElem?_getD, List.getElem?_eq_getElem hlt]
          exact List.getElem_mem hlt
        have hxz := recE_zero (hrr _ hmem)
        have hsz := (hrec _ hmem).2
        generalize rd_T42 l (j : Int) = x at c0 c1 c2 c3 HTK hsz hxz hmem
        obtain ⟨x1, x2, _, _, x5, x6, _, _⟩ := hxz
        have HCR := Aside0.mk (And.intro (runV_ok a0_0 a0_1 a0_2 a0_3 a0_4 a0_5 a0_6 (l.take j) (fun r h => hrec r (List.mem_of_mem_take h))) (show (runV a0_0 a0_1 a0_2 a0_3 a0_4 a0_5 a0_6 (l.take j)).length ≤ 10000 from by rw [runV_length]; simp; omega))
        have gr := (BS.out.2.2.block _ (by omega) (by omega)).trans HG.out
        have hwr : W0.heap.size ≤ wr.heap.size := BS.out.2.2.size
        obtain ⟨wa, hwa⟩ : ∃ wa, wr.alloc (.cells #[.int .i64 x.f0, .string x.f1, .int .i64 x.f2, .int .i64 x.f3] 42 (0, 0)) = wa := ⟨_, rfl⟩
        have hba : Below wr.heap.size wr wa := by rw [← hwa]; exact (Below.refl _ wr).alloc (Nat.le_refl _) _
        have hra : wa.heap[wr.heap.size]? = some (.cells #[.int .i64 x.f0, .string x.f1, .int .i64 x.f2, .int .i64 x.f3] 42 (0, 0)) := by rw [← hwa]; exact heap_alloc_new wr _
        have hsa : wa.heap.size = wr.heap.size + 1 := by rw [← hwa]; simp
        have ga := (hba.block _ (by omega)).trans gr
        have ra0 : wa.cell? ⟨wr.heap.size, 0, none⟩ = some (.int .i64 x.f0) := by rw [cell_of_row wa _ 0 _ _ _ hra]; rfl
        have ra1 : wa.cell? ⟨wr.heap.size, 1, none⟩ = some (.string x.f1) := by rw [cell_of_row wa _ 1 _ _ _ hra]; rfl
        have ra2 : wa.cell? ⟨wr.heap.size, 2, none⟩ = some (.int .i64 x.f2) := by rw [cell_of_row wa _ 2 _ _ _ hra]; rfl
        have ra3 : wa.cell? ⟨wr.heap.size, 3, none⟩ = some (.int .i64 x.f3) := by rw [cell_of_row wa _ 3 _ _ _ hra]; rfl
        go_wp2_with (first | ((with_reducible refine gload 23 rfl ?_); refine wpList_load_blk rfl 23 _ rfl w.heap.size _ 23 _ rfl ga _ Try.underlying23 rfl info23 ?_) | fail)
        clear hwa ra0 ra1 ra2 ra3
        refine (due_any a0_0 a0_1 a0_2 a0_3 a0_4 a0_5 a0_6 a0_7 a0_8 a0_9 bm (runV a0_0 a0_1 a0_2 a0_3 a0_4 a0_5 a0_6 (l.take j)) x.f0 x.f1 x.f2 x.f3 _ (BS.out.1.below hba) hpol.1 hpol.2.1 hpol.2.2.1 HCR.out.1 x1 x2 hsz x5 x6 HCR.out.2).mono ?_
        rintro e w3 ⟨rfl, hb3⟩
        obtain ⟨vd, hvd⟩ : ∃ vd, dueX a0_0 a0_1 a0_2 a0_3 a0_4 a0_5 a0_6 (runV a0_0 a0_1 a0_2 a0_3 a0_4 a0_5 a0_6 (l.take j)) x.f0 x.f1 x.f2 = vd := ⟨_, rfl⟩
        rw [hvd]
        have hr3 := (hb3.block _ (by omega)).trans hra
        have hba3 : Below wr.heap.size wr w3 := hba.trans (hb3.mono hba.size)
        have hs3 : wr.heap.size < w3.heap.size := by have := hb3.size; omega
        obtain ⟨W, hW⟩ : ∃ W, w3.setCell ⟨wr.heap.size, 3, none⟩ (.int .i64 vd) = W := ⟨_, rfl⟩
        have hrW : W.heap[wr.heap.size]? = some (.cells #[.int .i64 x.f0, .string x.f1, .int .i64 x.f2, .int .i64 vd] 42 (0, 0)) := by rw [← hW]; exact (heap_setCell_same hr3 _).trans rfl
        have hbW : Below wr.heap.size wr W := by
          rw [← hW]
          exact hba3.trans ⟨rfl, rfl, rfl, by simp [World.setCell], fun k hk => Below.heap_setCell _ _ _ _ (by simp; omega)⟩
        have hRW : Kd.R (Kd.int .i64) 3 W W0.heap.size (fun k => W0.heap.size ≤ k) u8 (verdL a0_0 a0_1 a0_2 a0_3 a0_4 a0_5 a0_6 (l.take j)) := Kd.R_step BS.out.2.1 (fun k _ hk => hbW.block k hk)
        have hfr := blk_frozen hr3 3
        have rd3 : w3.cell? ⟨wr.heap.size, 3, none⟩ = some (.int .i64 x.f3) := by rw [cell_of_row w3 _ 3 _ _ _ hr3]; rfl
        have rW : W.cell? ⟨wr.heap.size, 3, none⟩ = some (.int .i64 vd) := by rw [cell_of_row W _ 3 _ _ _ hrW]; rfl
        have HBW := Aside0.mk (BS.out.1.below hbW)
        have HRW := Aside0.mk hRW
        have HrW := Aside0.mk hrW
        have HKW := Aside0.mk (BS.out.2.2.trans (Keeps.of_below hbW _))
        have HVD := Aside0.mk hvd
        have hsW : wr.heap.size ≤ W.heap.size := hbW.size
        have hlv : (verdL a0_0 a0_1 a0_2 a0_3 a0_4 a0_5 a0_6 (l.take j)).length = j := by rw [verdL, List.length_map, runV_length]; simp; omega
        clear hr3 hrW hbW hRW hba3 hb3 hra hba ga gr hvd BS
        go_wp2_with (first | ((with_reducible refine gate_builtin (b := .append) (xs := #[.tmp 29, .tmp 32]) rfl ?_); at_builtin; refine Kd.R_append (Kd.int .i64) (w0 := W) W0.heap.size rfl (.tmp 29) (.tmp 32) 36 3 (.int .i64 0) 8 rfl Try.underlying36 info3 rfl (by decide) (by omega) u8 (verdL a0_0 a0_1 a0_2 a0_3 a0_4 a0_5 a0_6 (l.take j)) vd [.int .i64 vd] (fun k => W0.heap.size ≤ k) (fun _ => False) rfl rfl rfl (fun _ hk => hk.elim) (fun k hk => by omega) HRW.out (Below.refl _ _) (by omega) (by omega) ?_; intro v1 w5 ho hb hg hat; have h5 := rec_appended HrW.out HRW.out hg; have k0 : w5.cell? ⟨wr.heap.size, 0, none⟩ = some (.int .i64 x.f0) := (by rw [cell_of_row w5 _ 0 _ _ _ h5]; rfl); have k1 : w5.cell? ⟨wr.heap.size, 1, none⟩ = some (.string x.f1) := (by rw [cell_of_row w5 _ 1 _ _ _ h5]; rfl); have k2 : w5.cell? ⟨wr.heap.size, 2, none⟩ = some (.int .i64 x.f2) := (by rw [cell_of_row w5 _ 2 _ _ _ h5]; rfl); have k3 : w5.cell? ⟨wr.heap.size, 3, none⟩ = some (.int .i64 vd) := (by rw [cell_of_row w5 _ 3 _ _ _ h5]; rfl); have HB5 := Aside0.mk (HBW.out.appended HRW.out hg); have HO5 := Aside0.mk ho; have HB55 := Aside0.mk hb; clear h5 ho hb hg hat) | fail)
        refine (put_fn bm (runV a0_0 a0_1 a0_2 a0_3 a0_4 a0_5 a0_6 (l.take j)) ⟨x.f0, x.f1, x.f2, vd⟩ _ HB5.out HCR.out.2 hsz).mono ?_
        rintro e w6 ⟨rfl, hbk6, hk6⟩
        have hrun : runV a0_0 a0_1 a0_2 a0_3 a0_4 a0_5 a0_6 (l.take (j + 1)) = runV a0_0 a0_1 a0_2 a0_3 a0_4 a0_5 a0_6 (l.take j) ++ [⟨x.f0, x.f1, x.f2, vd⟩] := by rw [HTK.out, runV_snoc, dueR, HVD.out]
        have hver : verdL a0_0 a0_1 a0_2 a0_3 a0_4 a0_5 a0_6 (l.take (j + 1)) = verdL a0_0 a0_1 a0_2 a0_3 a0_4 a0_5 a0_6 (l.take j) ++ [vd] := by rw [verdL, hrun, List.map_append]; rfl
        have HN : Aside0 (Book w6 bm (runV a0_0 a0_1 a0_2 a0_3 a0_4 a0_5 a0_6 (l.take (j + 1))) ∧ Kd.R (Kd.int .i64) 3 w6 W0.heap.size (fun k => W0.heap.size ≤ k) v1 (verdL a0_0 a0_1 a0_2 a0_3 a0_4 a0_5 a0_6 (l.take (j + 1))) ∧ Keeps (fun k => k = bm) W0 w6) := by
          refine ⟨by rw [hrun]; exact hbk6, ?_, ?_⟩
          · rw [hver]
            exact Kd.R_step HO5.out (fun k hk hlt => hk6.block k hlt (by omega))
          · have hkw : Keeps (fun k => W0.heap.size ≤ k) W w5 := ⟨HB55.out.os, HB55.out.tape, HB55.out.output, HB55.out.size, fun k _ hk => HB55.out.block k (by omega)⟩
            exact (HKW.out.trans' hkw (fun i hi => .inr hi)).trans hk6
        clear hrun hver hbk6 hk6 HB5 HO5 HB55 HBW HRW HKW
        go_wp2_with fail
        go_roundw
        case rel => exact ⟨j + 1, by omega, by go_num, HN⟩
        case measure => simp [intOf]; omega
      · obtain rfl : j = l.length := by omega
        go_wp2_with fail
        refine ⟨rfl, _, results_tmp2 rfl _ _ _, _, rfl, ?_, HB.out.trans (BS.out.2.2.below HB.out.size (fun i hi => by omega))⟩
        have := BS.out.2.1
        rw [List.take_length] at this
        exact Kd.R_lower (Kd.R_mono this (fun _ _ => trivial)) HB.out.size
  · have hout : VerdictsX a0_0 a0_1 a0_2 a0_3 a0_4 a0_5 a0_6 a0_7 a0_8 a0_9 l = ([], rightX a0_0 a0_1 a0_2 a0_3 a0_4 a0_5 a0_6 a0_7 a0_8 a0_9 l) := by rw [VerdictsX, if_neg hz]
    rw [hout]
    clear hout
    generalize rightX a0_0 a0_1 a0_2 a0_3 a0_4 a0_5 a0_6 a0_7 a0_8 a0_9 l = er at hright hz
    refine calls_of_wp Try.func21 rfl ?_
    simp only [Try.ntmps21, List.size_toArray, List.length_cons, List.length_nil, Nat.reduceAdd, Nat.reduceSub, Array.replicate_succ, Array.replicate_zero, List.push_toArray, List.append_toArray, List.nil_append, List.cons_append]
    go_wp2_with fail
    refine (exact_right.calls (l.length + 1) a0_0 a0_1 a0_2 a0_3 a0_4 a0_5 a0_6 a0_7 a0_8 a0_9 A c l er _ (Kd.C_alloc hr _) hc hright).mono ?_
    rintro e w1 ⟨rfl, hbw⟩
    have hb1 : Below w.heap.size w w1 := ((Below.refl _ w).alloc (Nat.le_refl _) _).trans (hbw.mono (by simp))
    clear hbw hright hr
    go_wp2_with fail
    refine ⟨rfl, _, results_tmp2 rfl _ _ _, _, rfl, Kd.R_nil _ _ _ _ _, hb1⟩
end Go.Proofs.Ytmlpahjmebfgbaa.Own
end

