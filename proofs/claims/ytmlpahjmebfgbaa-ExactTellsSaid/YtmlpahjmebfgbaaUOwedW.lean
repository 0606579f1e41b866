/- Lemmas for a claim of this seat: texts of this session and of the kit's print, without what this claim does not use. -/
import Derived.Test.YtmlpahjmebfgbaaUOwed
import Derived.Test.YtmlpahjmebfgbaaUQuietR
namespace Go.Proofs.Ytmlpahjmebfgbaa.Own
open Go.BigFrame Go.RowKit Go.Proofs.YtmlpahjmebfgbaaW.PrintWords Go.Proofs.YtmlpahjmebfgbaaW.PrintLast Go.Proofs.YtmlpahjmebfgbaaW.PrintMore Go.Proofs.Ytmlpahjmebfgbaa.PEx
set_option linter.unusedVariables false
set_option linter.unusedSimpArgs false
attribute [local go_sem] Oper.semAt_some
attribute [local go_sem] max2_int min2_int

theorem takeWhile_all {α : Type} (f : α → Bool) : ∀ xs : List α, (∀ x ∈ xs, f x = true) → xs.takeWhile f = xs
  | [], _ => rfl
  | x :: r, h => by rw [List.takeWhile_cons, h x (by simp), if_pos rfl, takeWhile_all f r (fun y hy => h y (by simp [hy]))]
theorem takeWhile_stop {α : Type} (f : α → Bool) : ∀ (xs : List α) (x : α) (r : List α), (∀ x ∈ xs, f x = true) → f x = false → (xs ++ x :: r).takeWhile f = xs
  | [], x, r, _, h => by simp [h]
  | y :: s, x, r, h, h2 => by rw [List.cons_append, List.takeWhile_cons, h y (by simp), if_pos rfl, takeWhile_stop f s x r (fun z hz => h z (by simp [hz])) h2]
set_option maxRecDepth 100000 in
set_option maxHeartbeats 2000000 in
theorem owed_window (cap num den width count keys slots every seg : Int) (tick : Int) (A : Option Addr) (c : Nat) (l : List S42) (w : World) (hr : Kd.C k42 w A l.length l)
    (hn : 1 ≤ width) (hn2 : width ≤ 1048576) (hc : 1 ≤ count) (hc2 : count ≤ 32) (hok : ∀ r ∈ l, okR r) (ht0 : 0 ≤ tick) (ht : tick ≤ 1099511627776) (hlen : l.length ≤ 10000) :
    Calls Try.prog 34 #[.slice A l.length c, .agg #[.int .i64 2, .int .i64 cap, .int .i64 num, .int .i64 den, .int .i64 width, .int .i64 count, .int .i64 keys, .int .i64 slots, .int .i64 every, .int .i64 seg], .int .i64 tick] w fun e w' =>
      e = .returned (.int .i64 (owedX 2 num den width count tick l)) ∧ Below w.heap.size w w' := by
  refine (callsIn_wide (n := 6)).1 ?_
  refine callsIn_of_wp_marks Try.func34 rfl trivial ?_
  simp only [Try.ntmps34, List.size_toArray, List.length_cons, List.length_nil, Nat.reduceAdd, Nat.reduceSub, Array.replicate_succ, Array.replicate_zero, List.push_toArray, List.append_toArray, List.nil_append, List.cons_append]
  gi_wp2
  refine ⟨trivial, ?_⟩
  refine (behind_mk _ _ _ _ _ _).mono ?_
  rintro e w' ⟨rfl, rfl⟩
  gi_wp2
  obtain ⟨Wb, hWb⟩ : ∃ Wb, allocAll w [.cells #[.int .i64 2, .int .i64 cap, .int .i64 num, .int .i64 den, .int .i64 width, .int .i64 count, .int .i64 keys, .int .i64 slots, .int .i64 every, .int .i64 seg] 23 (0, 0), .cells #[.int .i64 tick] 3 (0, 0), .cells #[.int .i64 0] 3 (0, 0), .cells #[.int .i64 0] 3 (0, 0), .cells #[.slice A l.length c] 63 (0, 0), .cells #[.int .i64 tick] 3 (0, 0)] = Wb := ⟨_, rfl⟩
  change Code.wpIn _ _ _ _ _ _ (allocAll w [.cells #[.int .i64 2, .int .i64 cap, .int .i64 num, .int .i64 den, .int .i64 width, .int .i64 count, .int .i64 keys, .int .i64 slots, .int .i64 every, .int .i64 seg] 23 (0, 0), .cells #[.int .i64 tick] 3 (0, 0), .cells #[.int .i64 0] 3 (0, 0), .cells #[.int .i64 0] 3 (0, 0), .cells #[.slice A l.length c] 63 (0, 0), .cells #[.int .i64 tick] 3 (0, 0)])
  rw [hWb]
  have g0 : Wb.heap[w.heap.size]? = some (.cells #[.int .i64 2, .int .i64 cap, .int .i64 num, .int .i64 den, .int .i64 width, .int .i64 count, .int .i64 keys, .int .i64 slots, .int .i64 every, .int .i64 seg] 23 (0, 0)) := by rw [← hWb]; exact allocAll_get _ w 0 _ rfl
  have g1 : Wb.heap[w.heap.size + 1]? = some (.cells #[.int .i64 tick] 3 (0, 0)) := by rw [← hWb]; exact allocAll_get _ w 1 _ rfl
  have g2 : Wb.heap[w.heap.size + 1 + 1]? = some (.cells #[.int .i64 0] 3 (0, 0)) := by rw [← hWb]; exact allocAll_get _ w 2 _ rfl
  have g3 : Wb.heap[w.heap.size + 1 + 1 + 1]? = some (.cells #[.int .i64 0] 3 (0, 0)) := by rw [← hWb]; exact allocAll_get _ w 3 _ rfl
  have g4 : Wb.heap[w.heap.size + 1 + 1 + 1 + 1]? = some (.cells #[.slice A l.length c] 63 (0, 0)) := by rw [← hWb]; exact allocAll_get _ w 4 _ rfl
  have g5 : Wb.heap[w.heap.size + 1 + 1 + 1 + 1 + 1]? = some (.cells #[.int .i64 tick] 3 (0, 0)) := by rw [← hWb]; exact allocAll_get _ w 5 _ rfl
  have hbw : Below w.heap.size w Wb := by rw [← hWb]; exact allocAll_below _ w
  have hsz : Wb.heap.size = w.heap.size + 6 := by rw [← hWb]; exact allocAll_size _ w
  clear hWb
  have hblk : ∀ ad, A = some ad → 0 < l.length → ad.block < w.heap.size := fun ad eA h => by
    obtain ⟨ad', eA', c0, _⟩ := at_T42 hr 0 (by omega) (by omega)
    rw [eA] at eA'; cases eA'
    have := World.block_lt_of_cell? w _ c0
    rwa [block_of_add] at this
  have cS : Wb.cell? ⟨w.heap.size + 1 + 1 + 1 + 1, 0, none⟩ = some (.slice A l.length c) := by rw [cell_of_row Wb _ 0 _ _ _ g4]; rfl
  have cT : Wb.cell? ⟨w.heap.size + 1 + 1 + 1 + 1 + 1, 0, none⟩ = some (.int .i64 tick) := by rw [cell_of_row Wb _ 0 _ _ _ g5]; rfl
  have hxs : ∀ r ∈ upto tick (backs l), okR r ∧ r.f0 ≤ tick := fun r h => ⟨hok r (upto_mem h).1, (upto_mem h).2⟩
  have hxl : (upto tick (backs l)).length ≤ 10000 := Nat.le_trans (upto_length tick l) hlen
  refine wpIn_range_iter (m := 6) rfl (enters_of Try.func70 (by kernel_rfl) rfl) (behind_fn 6 (w.heap.size + 1 + 1 + 1 + 1) (w.heap.size + 1 + 1 + 1 + 1 + 1) A c l tick Wb cS cT (Kd.C_below hr hbw)) (Below.refl _ _) (fun _ => rfl)
    (fun k => k = w.heap.size + 1 + 1 ∨ k = w.heap.size + 1 + 1 + 1) (fun k hk => by omega)
    (fun k hk => by
      rcases hk with rfl | rfl | ⟨ad, eA, hl, rfl⟩
      · omega
      · omega
      · have := hblk ad eA hl; omega)
    (fun pre Wx => (Wx.heap[w.heap.size + 1 + 1]? = some (.cells #[.int .i64 (sumW pre)] 3 (0, 0)) ∧ Wx.heap[w.heap.size + 1 + 1 + 1]? = some (.cells #[.int .i64 0] 3 (0, 0))) ∧ ∀ r ∈ pre, inW width count tick r = true)
    (fun cd pre' Wx => cd = .exit 0 ∧ ∃ pre x, pre' = pre ++ [x] ∧ Wx.heap[w.heap.size + 1 + 1]? = some (.cells #[.int .i64 (sumW pre)] 3 (0, 0)) ∧ (∀ r ∈ pre, inW width count tick r = true) ∧ inW width count tick x = false)
    (fun pre A B h hb => ⟨⟨(hb.block _ (by omega)).trans h.1.1, (hb.block _ (by omega)).trans h.1.2⟩, h.2⟩) (fun cd pre' A B h hb => by
      obtain ⟨h1, p, x, h2, h3, h4⟩ := h
      exact ⟨h1, p, x, h2, (hb.block _ (by omega)).trans h3, h4⟩) ⟨⟨g2, g3⟩, by simp⟩ ?round ?done ?stop
  case round =>
    intro lr pre x Wr hl hlt hI hK hpre
    obtain ⟨⟨hm, hs⟩, hin⟩ := hI
    have hxm : x ∈ upto tick (backs l) := hpre.subset (by simp)
    have hpl : (pre ++ [x]).length ≤ 10000 := Nat.le_trans hpre.length_le hxl
    obtain ⟨⟨x1, x2, x3, x4⟩, x5⟩ := hxs x hxm
    obtain ⟨f1, f2⟩ := sumW_bound pre (fun r h => (hxs r (hpre.subset (by simp [h]))).1)
    have hpl' : (pre.length : Int) ≤ 10000 := by simp at hpl; omega
    have hnext := sumW_snoc pre x
    have hq : ∀ y : Int, 0 ≤ y → y ≤ 1099511627776 → 0 ≤ y / width ∧ y / width ≤ 1099511627776 ∧ Int.tdiv y width = y / width := fun y h0 h1 =>
      ⟨Int.ediv_nonneg h0 (by omega), Int.le_trans (Int.ediv_le_self _ h0) h1, Int.tdiv_eq_ediv_of_nonneg h0⟩
    obtain ⟨d1, d2, d3⟩ := hq tick ht0 ht
    obtain ⟨d4, d5, d6⟩ := hq x.f0 x1 x2
    have HN := Aside0.mk hnext
    have HG0 := Aside0.mk g0
    have HG1 := Aside0.mk g1
    have HM := Aside0.mk hm
    have HS := Aside0.mk hs
    have HZ := Aside0.mk hsz
    have HI := Aside0.mk hin
    clear hnext g0 g1 g2 g3 g4 g5 hm hs hsz cS cT hr hxs hok hpl hq hin
    generalize hsw : sumW pre = su at f1 f2 HM HN
    have HSW := Aside0.mk hsw
    clear hsw
    have hcase : inW width count tick x = decide (tick / width - x.f0 / width < count) := rfl
    gi_wp2
    have hz := HZ.out
    refine ⟨(Keeps.refl _ _).alloc _, ⟨⟨(Below.heap_alloc _ _ _ (by omega)).trans HM.out, (Below.heap_alloc _ _ _ (by omega)).trans HS.out⟩, HI.out⟩, ?_⟩
    intro W2 hO
    have hr2 : W2.heap[Wr.heap.size]? = some (.cells #[.int .i64 x.f0, .string x.f1, .int .i64 x.f2, .int .i64 x.f3] 42 (0, 0)) := (hO.other _ (by omega)).trans (heap_alloc_new Wr _)
    have hm2 : W2.heap[w.heap.size + 1 + 1]? = some (.cells #[.int .i64 su] 3 (0, 0)) := (hO.other _ (by omega)).trans ((Below.heap_alloc _ _ _ (by omega)).trans HM.out)
    have hs2 : W2.heap[w.heap.size + 1 + 1 + 1]? = some (.cells #[.int .i64 0] 3 (0, 0)) := (hO.other _ (by omega)).trans ((Below.heap_alloc _ _ _ (by omega)).trans HS.out)
    have hp2 : W2.heap[w.heap.size]? = _ := (hO.other _ (by omega)).trans ((Below.heap_alloc _ _ _ (by omega)).trans ((hK.block _ (by omega) (by omega)).trans HG0.out))
    have ht2 : W2.heap[w.heap.size + 1]? = _ := (hO.other _ (by omega)).trans ((Below.heap_alloc _ _ _ (by omega)).trans ((hK.block _ (by omega) (by omega)).trans HG1.out))
    have hsz2 : w.heap.size + 1 + 1 + 1 < Wr.heap.size := by omega
    have e0 : W2.cell? ⟨Wr.heap.size, 0, none⟩ = some (.int .i64 x.f0) := by rw [cell_of_row W2 _ 0 _ _ _ hr2]; rfl
    have e2 : W2.cell? ⟨Wr.heap.size, 2, none⟩ = some (.int .i64 x.f2) := by rw [cell_of_row W2 _ 2 _ _ _ hr2]; rfl
    have k0 : W2.cell? ⟨w.heap.size, 0, none⟩ = some (.int .i64 2) := by rw [cell_of_row W2 _ 0 _ _ _ hp2]; rfl
    have k4 : W2.cell? ⟨w.heap.size, 4, none⟩ = some (.int .i64 width) := by rw [cell_of_row W2 _ 4 _ _ _ hp2]; rfl
    have k5 : W2.cell? ⟨w.heap.size, 5, none⟩ = some (.int .i64 count) := by rw [cell_of_row W2 _ 5 _ _ _ hp2]; rfl
    have kt : W2.cell? ⟨w.heap.size + 1, 0, none⟩ = some (.int .i64 tick) := by rw [cell_of_row W2 _ 0 _ _ _ ht2]; rfl
    have km : W2.cell? ⟨w.heap.size + 1 + 1, 0, none⟩ = some (.int .i64 su) := by rw [cell_of_row W2 _ 0 _ _ _ hm2]; rfl
    have fm := blk_frozen hm2 0
    have HM2 := Aside0.mk hm2
    have HS2 := Aside0.mk hs2
    clear hr2 hm2 hs2 hp2 ht2 hO hz HG0 HG1 HM HS
    gi_wp2
    have dsub : Int.tdiv tick width - Int.tdiv x.f0 width = tick / width - x.f0 / width := by rw [d3, d6]
    generalize hE1 : tick / width = E1 at *
    generalize hE2 : x.f0 / width = E2 at *
    by_cases hc3 : E1 - E2 < count
    · refine wpIn_region_quiet_round rfl (by kernel_rfl) (by kernel_rfl) (by kernel_rfl) ?_
      repeat (gi_big_quiet_step (fail))
      refine wpQuietIn_nil ?_
      intro _ hwq
      obtain ⟨nq, hwq2⟩ := hwq
      subst hwq2
      gi_wp2
      refine ⟨((Keeps.refl _ _).drewN _).setCell (.inl (.inl rfl)) _, ⟨?_, ?_⟩, ?_⟩
      · refine (heap_setCell_same HM2.out _).trans ?_
        rw [HN.out]; rfl
      · exact (Below.heap_setCell _ _ _ _ (by simp)).trans HS2.out
      · intro r hr
        rcases List.mem_append.1 hr with hr | hr
        · exact HI.out r hr
        · simp only [List.mem_singleton] at hr
          subst hr
          rw [hcase]; exact decide_eq_true hc3
    · refine wpIn_region_quiet_round rfl (by kernel_rfl) (by kernel_rfl) (by kernel_rfl) ?_
      repeat (gi_big_quiet_step (fail))
      refine wpQuietIn_nil ?_
      intro _ hwq
      obtain ⟨nq, hwq2⟩ := hwq
      subst hwq2
      gi_wp2
      exact ⟨(Keeps.refl _ _).drewN _, rfl, pre, x, rfl, by rw [HSW.out]; exact HM2.out, HI.out, by rw [hcase]; exact decide_eq_false (by omega)⟩
  case done =>
    intro D Wd hD hI hK hKd
    obtain ⟨⟨hm, hs⟩, hin⟩ := hI
    have km : Wd.cell? ⟨w.heap.size + 1 + 1, 0, none⟩ = some (.int .i64 (sumW (upto tick (backs l)))) := by rw [cell_of_row Wd _ 0 _ _ _ hm]; rfl
    clear hm hs g0 g1 g2 g3 g4 g5 cS cT
    gi_wp2
    refine ⟨by simp, .inl ⟨_, _, rfl, run_takeDeferred hKd, ?_⟩⟩
    refine ⟨_, results_tmp rfl _ _ _, by simp [owedX, takeWhile_all _ _ hin], ?_⟩
    refine (hbw.trans (hK.below (by omega) (fun i hi => by omega))).trans (below_putObj _ (by omega) _)
  case stop =>
    intro D cd pre Wd _ hpre hx hK hKd
    obtain ⟨rfl, p, x, rfl, hm, hin, hno⟩ := hx
    have km : Wd.cell? ⟨w.heap.size + 1 + 1, 0, none⟩ = some (.int .i64 (sumW p)) := by rw [cell_of_row Wd _ 0 _ _ _ hm]; rfl
    have hfin : owedX 2 num den width count tick l = sumW p := by
      obtain ⟨r, hr⟩ := hpre
      simp [owedX, ← hr, takeWhile_stop _ _ _ _ hin hno]
    have HF := Aside0.mk hfin
    clear hm hin hno hfin g0 g1 g2 g3 g4 g5 cS cT
    gi_wp2
    refine ⟨by simp, .inl ⟨_, _, rfl, run_takeDeferred hKd, ?_⟩⟩
    refine ⟨_, results_tmp rfl _ _ _, by simp [HF.out], ?_⟩
    refine (hbw.trans (hK.below (by omega) (fun i hi => by omega))).trans (below_putObj _ (by omega) _)
end Go.Proofs.Ytmlpahjmebfgbaa.Own
