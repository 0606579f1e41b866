/- Lemmas for a claim of this seat: texts of this session and of the kit's print, without what this claim does not use. -/
import Derived.Test.YtmlpahjmebfgbaaUBehind
namespace Go.Proofs.Ytmlpahjmebfgbaa.Own
open Go.RowKit Go.Proofs.YtmlpahjmebfgbaaW.PrintWords Go.Proofs.YtmlpahjmebfgbaaW.PrintLast Go.Proofs.YtmlpahjmebfgbaaW.PrintMore Go.Proofs.Ytmlpahjmebfgbaa.PEx
set_option linter.unusedVariables false
set_option linter.unusedSimpArgs false
attribute [local go_sem] Oper.semAt_some
attribute [local go_sem] max2_int min2_int

theorem snocInd {α : Type} {P : List α → Prop} (h0 : P []) (hs : ∀ l x, P l → P (l ++ [x])) (l : List α) : P l := by
  have : ∀ r : List α, P r.reverse := fun r => by
    induction r with
    | nil => exact h0
    | cons x r ih => rw [List.reverse_cons]; exact hs _ _ ih
  have h := this l.reverse
  rwa [List.reverse_reverse] at h

/-- A record that may be, as far as the sums go. -/
def okR (r : S42) : Prop := 0 ≤ r.f0 ∧ r.f0 ≤ 1099511627776 ∧ 1 ≤ r.f2 ∧ r.f2 ≤ 1048576
/-- A bucket's step: the most so far and the sum. -/
def stepB (num den tick : Int) (s : Int × Int) (r : S42) : Int × Int := (mx s.1 (s.2 + r.f2 * den - num * (tick - r.f0)), s.2 + r.f2 * den)
def foldB (num den tick : Int) (xs : List S42) : Int × Int := xs.foldl (stepB num den tick) (0, 0)
theorem foldB_snoc (num den tick : Int) (xs : List S42) (x : S42) : foldB num den tick (xs ++ [x]) = stepB num den tick (foldB num den tick xs) x := by simp [foldB]
theorem mul_le_of {a b A B : Int} (ha : 0 ≤ a) (hA : a ≤ A) (hb : 0 ≤ b) (hB : b ≤ B) : 0 ≤ a * b ∧ a * b ≤ A * B :=
  ⟨Int.mul_nonneg ha hb, Int.le_trans (Int.mul_le_mul_of_nonneg_right hA hb) (Int.mul_le_mul_of_nonneg_left hB (Int.le_trans ha hA))⟩
theorem foldB_bound {num den tick : Int} (hn : 1 ≤ num) (hd : 1 ≤ den) (hd2 : den ≤ 65536) (xs : List S42) (h : ∀ r ∈ xs, okR r ∧ r.f0 ≤ tick) :
    0 ≤ (foldB num den tick xs).1 ∧ (foldB num den tick xs).1 ≤ (foldB num den tick xs).2 ∧ (foldB num den tick xs).2 ≤ xs.length * 68719476736 := by
  revert h
  refine snocInd (P := fun xs => (∀ r ∈ xs, okR r ∧ r.f0 ≤ tick) → 0 ≤ (foldB num den tick xs).1 ∧ (foldB num den tick xs).1 ≤ (foldB num den tick xs).2 ∧ (foldB num den tick xs).2 ≤ xs.length * 68719476736) (fun _ => by simp [foldB]) ?_ xs
  · intro l x ih h
    obtain ⟨i1, i2, i3⟩ := ih (fun r hr => h r (by simp [hr]))
    obtain ⟨⟨h1, h2, h3, h4⟩, h5⟩ := h x (by simp)
    rw [foldB_snoc]
    obtain ⟨p1, p2⟩ := mul_le_of (a := x.f2) (b := den) (A := 1048576) (B := 65536) (by omega) h4 (by omega) hd2
    obtain ⟨q1, q2⟩ := mul_le_of (a := num) (b := tick - x.f0) (A := num) (B := tick - x.f0) (by omega) (Int.le_refl _) (by omega) (Int.le_refl _)
    simp only [stepB, mx, List.length_append, List.length_singleton]
    refine ⟨?_, ?_, ?_⟩
    all_goals (try split) <;> omega

/-- A window's sum: of those from behind that still stand in it. -/
def inW (width count tick : Int) (r : S42) : Bool := decide (tick / width - r.f0 / width < count)
def sumW (xs : List S42) : Int := xs.foldl (fun s r => s + r.f2) 0
theorem sumW_snoc (xs : List S42) (x : S42) : sumW (xs ++ [x]) = sumW xs + x.f2 := by simp [sumW]
theorem sumW_bound (xs : List S42) (h : ∀ r ∈ xs, okR r) : 0 ≤ sumW xs ∧ sumW xs ≤ xs.length * 1048576 := by
  revert h
  refine snocInd (P := fun xs => (∀ r ∈ xs, okR r) → 0 ≤ sumW xs ∧ sumW xs ≤ xs.length * 1048576) (fun _ => by simp [sumW]) ?_ xs
  · intro l x ih h
    obtain ⟨i1, i2⟩ := ih (fun r hr => h r (by simp [hr]))
    obtain ⟨h1, h2, h3, h4⟩ := h x (by simp)
    rw [sumW_snoc]
    simp only [List.length_append, List.length_singleton]
    omega

/-- What is owed. -/
def owedX (kind num den width count tick : Int) (l : List S42) : Int :=
  if kind = 1 then (foldB num den tick (upto tick (backs l))).1 else sumW ((upto tick (backs l)).takeWhile (inW width count tick))

theorem upto_mem {tick : Int} {l : List S42} {r : S42} (h : r ∈ upto tick (backs l)) : r ∈ l ∧ r.f0 ≤ tick := by
  unfold upto backs at h
  simp only [List.map_map, List.mem_filter, List.mem_map, List.mem_reverse, List.mem_range, decide_eq_true_eq, Function.comp] at h
  obtain ⟨⟨j, hj, rfl⟩, h2⟩ := h
  refine ⟨?_, h2⟩
  unfold rd_T42
  rw [Int.toNat_natCast, List.getD_eq_getElem?_getD, List.getElem?_eq_getElem hj]
  exact List.getElem_mem hj
theorem upto_length (tick : Int) (l : List S42) : (upto tick (backs l)).length ≤ l.length := by
  unfold upto
  refine Nat.le_trans (List.length_filter_le _ _) ?_
  simp [backs]

set_option maxRecDepth 100000 in
set_option maxHeartbeats 1000000 in
theorem behind_mk (m : Nat) (A : Option Addr) (n c : Nat) (tick : Int) (w : World) :
    CallsIn Fence.wide m Try.prog 53 #[.slice A n c, .int .i64 tick] w fun e w' => e = .returned (.func (.func 70) #[] #[.pointer (some ⟨w.heap.size, 0, none⟩), .pointer (some ⟨w.heap.size + 1, 0, none⟩)]) ∧ w' = (w.alloc (.cells #[.slice A n c] 63)).alloc (.cells #[.int .i64 tick] 3) := by
  refine callsIn_of_wp Try.func53 rfl trivial ?_ rfl
  simp only [Try.ntmps53, List.size_toArray, List.length_cons, List.length_nil, Nat.reduceAdd, Nat.reduceSub, Array.replicate_succ, Array.replicate_zero, List.push_toArray, List.append_toArray, List.nil_append, List.cons_append]
  gi_wp2
  go_ret
  exact ⟨rfl, rfl⟩

set_option maxRecDepth 100000 in
set_option maxHeartbeats 2000000 in
theorem owed_bucket (cap num den width count keys slots every seg : Int) (tick : Int) (A : Option Addr) (c : Nat) (l : List S42) (w : World) (hr : Kd.C k42 w A l.length l)
    (hn : 1 ≤ num) (hn2 : num ≤ 65536) (hd : 1 ≤ den) (hd2 : den ≤ 65536) (hok : ∀ r ∈ l, okR r) (ht0 : 0 ≤ tick) (ht : tick ≤ 1099511627776) (hlen : l.length ≤ 10000) :
    Calls Try.prog 34 #[.slice A l.length c, .agg #[.int .i64 1, .int .i64 cap, .int .i64 num, .int .i64 den, .int .i64 width, .int .i64 count, .int .i64 keys, .int .i64 slots, .int .i64 every, .int .i64 seg], .int .i64 tick] w fun e w' =>
      e = .returned (.int .i64 (owedX 1 num den width count tick l)) ∧ Below w.heap.size w w' := by
  refine (callsIn_wide (n := 6)).1 ?_
  refine callsIn_of_wp_marks Try.func34 rfl trivial ?_
  simp only [Try.ntmps34, List.size_toArray, List.length_cons, List.length_nil, Nat.reduceAdd, Nat.reduceSub, Array.replicate_succ, Array.replicate_zero, List.push_toArray, List.append_toArray, List.nil_append, List.cons_append]
  gi_wp2
  refine ⟨trivial, ?_⟩
  refine (behind_mk _ _ _ _ _ _).mono ?_
  rintro e w' ⟨rfl, rfl⟩
  gi_wp2
  obtain ⟨Wb, hWb⟩ : ∃ Wb, allocAll w [.cells #[.int .i64 1, .int .i64 cap, .int .i64 num, .int .i64 den, .int .i64 width, .int .i64 count, .int .i64 keys, .int .i64 slots, .int .i64 every, .int .i64 seg] 23 (0, 0), .cells #[.int .i64 tick] 3 (0, 0), .cells #[.int .i64 0] 3 (0, 0), .cells #[.int .i64 0] 3 (0, 0), .cells #[.slice A l.length c] 63 (0, 0), .cells #[.int .i64 tick] 3 (0, 0)] = Wb := ⟨_, rfl⟩
  change Code.wpIn _ _ _ _ _ _ (allocAll w [.cells #[.int .i64 1, .int .i64 cap, .int .i64 num, .int .i64 den, .int .i64 width, .int .i64 count, .int .i64 keys, .int .i64 slots, .int .i64 every, .int .i64 seg] 23 (0, 0), .cells #[.int .i64 tick] 3 (0, 0), .cells #[.int .i64 0] 3 (0, 0), .cells #[.int .i64 0] 3 (0, 0), .cells #[.slice A l.length c] 63 (0, 0), .cells #[.int .i64 tick] 3 (0, 0)])
  rw [hWb]
  have g0 : Wb.heap[w.heap.size]? = some (.cells #[.int .i64 1, .int .i64 cap, .int .i64 num, .int .i64 den, .int .i64 width, .int .i64 count, .int .i64 keys, .int .i64 slots, .int .i64 every, .int .i64 seg] 23 (0, 0)) := by rw [← hWb]; exact allocAll_get _ w 0 _ rfl
  have g1 : Wb.heap[w.heap.size + 1]? = some (.cells #[.int .i64 tick] 3 (0, 0)) := by rw [← hWb]; exact allocAll_get _ w 1 _ rfl
  have g2 : Wb.heap[w.heap.size + 1 + 1]? = some (.cells #[.int .i64 0] 3 (0, 0)) := by rw [← hWb]; exact allocAll_get _ w 2 _ rfl
  have g3 : Wb.heap[w.heap.size + 1 + 1 + 1]? = some (.cells #[.int .i64 0] 3 (0, 0)) := by rw [← hWb]; exact allocAll_get _ w 3 _ rfl
  have g4 : Wb.heap[w.heap.size + 1 + 1 + 1 + 1]? = some (.cells #[.slice A l.length c] 63 (0, 0)) := by rw [← hWb]; exact allocAll_get _ w 4 _ rfl
  have g5 : Wb.heap[w.heap.size + 1 + 1 + 1 + 1 + 1]? = some (.cells #[.int .i64 tick] 3 (0, 0)) := by rw [← hWb]; exact allocAll_get _ w 5 _ rfl
  have hbw : Below w.heap.size w Wb := by rw [← hWb]; exact allocAll_below _ w
  have hsz : Wb.heap.size = w.heap.size + 6 := by rw [← hWb]; exact allocAll_size _ w
  clear hWb
  have hblk : ∀ ad, A = some ad → 0 < l.length → ad.block < w.heap.size := fun ad eA h => by
    obtain ⟨ad', eA', c0, _⟩ := at_T42 hr 0 (by omega) (by omega)
    rw [eA] at eA'; cases eA'
    have := World.block_lt_of_cell? w _ c0
    rwa [block_of_add] at this
  have cS : Wb.cell? ⟨w.heap.size + 1 + 1 + 1 + 1, 0, none⟩ = some (.slice A l.length c) := by rw [cell_of_row Wb _ 0 _ _ _ g4]; rfl
  have cT : Wb.cell? ⟨w.heap.size + 1 + 1 + 1 + 1 + 1, 0, none⟩ = some (.int .i64 tick) := by rw [cell_of_row Wb _ 0 _ _ _ g5]; rfl
  have hxs : ∀ r ∈ upto tick (backs l), okR r ∧ r.f0 ≤ tick := fun r h => ⟨hok r (upto_mem h).1, (upto_mem h).2⟩
  have hxl : (upto tick (backs l)).length ≤ 10000 := Nat.le_trans (upto_length tick l) hlen
  refine wpIn_range_iter (m := 6) rfl (enters_of Try.func70 (by kernel_rfl) rfl) (behind_fn 6 (w.heap.size + 1 + 1 + 1 + 1) (w.heap.size + 1 + 1 + 1 + 1 + 1) A c l tick Wb cS cT (Kd.C_below hr hbw)) (Below.refl _ _) (fun _ => rfl)
    (fun k => k = w.heap.size + 1 + 1 ∨ k = w.heap.size + 1 + 1 + 1) (fun k hk => by omega)
    (fun k hk => by
      rcases hk with rfl | rfl | ⟨ad, eA, hl, rfl⟩
      · omega
      · omega
      · have := hblk ad eA hl; omega)
    (fun pre Wx => Wx.heap[w.heap.size + 1 + 1]? = some (.cells #[.int .i64 (foldB num den tick pre).1] 3 (0, 0)) ∧ Wx.heap[w.heap.size + 1 + 1 + 1]? = some (.cells #[.int .i64 (foldB num den tick pre).2] 3 (0, 0)))
    (fun _ _ _ => False)
    (fun pre A B h hb => ⟨(hb.block _ (by omega)).trans h.1, (hb.block _ (by omega)).trans h.2⟩) (fun _ _ _ _ h _ => h.elim) ⟨g2, g3⟩ ?round ?done ?stop
  case round =>
    intro lr pre x Wr hl hlt hI hK hpre
    obtain ⟨hm, hs⟩ := hI
    have hxm : x ∈ upto tick (backs l) := hpre.subset (by simp)
    have hpl : (pre ++ [x]).length ≤ 10000 := Nat.le_trans hpre.length_le hxl
    obtain ⟨⟨x1, x2, x3, x4⟩, x5⟩ := hxs x hxm
    obtain ⟨p1, p2⟩ := mul_le_of (a := x.f2) (b := den) (A := 1048576) (B := 65536) (by omega) x4 (by omega) hd2
    obtain ⟨q1, q2⟩ := mul_le_of (a := num) (b := tick - x.f0) (A := 65536) (B := 1099511627776) (by omega) hn2 (by omega) (by omega)
    obtain ⟨f1, f2, f3⟩ := foldB_bound (num := num) (den := den) (tick := tick) hn hd hd2 pre (fun r h => hxs r (hpre.subset (by simp [h])))
    have hpl' : (pre.length : Int) ≤ 10000 := by simp at hpl; omega
    have hnext := foldB_snoc num den tick pre x
    have HN := Aside0.mk hnext
    have HG0 := Aside0.mk g0
    have HG1 := Aside0.mk g1
    have HM := Aside0.mk hm
    have HS := Aside0.mk hs
    have HZ := Aside0.mk hsz
    clear hnext g0 g1 g2 g3 g4 g5 hm hs hsz cS cT hr hxs hok hpl
    generalize (foldB num den tick pre) = st at f1 f2 f3 HM HS HN
    obtain ⟨mo, su⟩ := st
    simp only at f1 f2 f3
    gi_wp2
    have hz := HZ.out
    refine ⟨(Keeps.refl _ _).alloc _, ⟨(Below.heap_alloc _ _ _ (by omega)).trans HM.out, (Below.heap_alloc _ _ _ (by omega)).trans HS.out⟩, ?_⟩
    intro W2 hO
    have hr2 : W2.heap[Wr.heap.size]? = some (.cells #[.int .i64 x.f0, .string x.f1, .int .i64 x.f2, .int .i64 x.f3] 42 (0, 0)) := (hO.other _ (by omega)).trans (heap_alloc_new Wr _)
    have hm2 : W2.heap[w.heap.size + 1 + 1]? = some (.cells #[.int .i64 mo] 3 (0, 0)) := (hO.other _ (by omega)).trans ((Below.heap_alloc _ _ _ (by omega)).trans HM.out)
    have hs2 : W2.heap[w.heap.size + 1 + 1 + 1]? = some (.cells #[.int .i64 su] 3 (0, 0)) := (hO.other _ (by omega)).trans ((Below.heap_alloc _ _ _ (by omega)).trans HS.out)
    have hp2 : W2.heap[w.heap.size]? = _ := (hO.other _ (by omega)).trans ((Below.heap_alloc _ _ _ (by omega)).trans ((hK.block _ (by omega) (by omega)).trans HG0.out))
    have ht2 : W2.heap[w.heap.size + 1]? = _ := (hO.other _ (by omega)).trans ((Below.heap_alloc _ _ _ (by omega)).trans ((hK.block _ (by omega) (by omega)).trans HG1.out))
    have hsz2 : w.heap.size + 1 + 1 + 1 < Wr.heap.size := by omega
    have e0 : W2.cell? ⟨Wr.heap.size, 0, none⟩ = some (.int .i64 x.f0) := by rw [cell_of_row W2 _ 0 _ _ _ hr2]; rfl
    have e2 : W2.cell? ⟨Wr.heap.size, 2, none⟩ = some (.int .i64 x.f2) := by rw [cell_of_row W2 _ 2 _ _ _ hr2]; rfl
    have k0 : W2.cell? ⟨w.heap.size, 0, none⟩ = some (.int .i64 1) := by rw [cell_of_row W2 _ 0 _ _ _ hp2]; rfl
    have k2 : W2.cell? ⟨w.heap.size, 2, none⟩ = some (.int .i64 num) := by rw [cell_of_row W2 _ 2 _ _ _ hp2]; rfl
    have k3 : W2.cell? ⟨w.heap.size, 3, none⟩ = some (.int .i64 den) := by rw [cell_of_row W2 _ 3 _ _ _ hp2]; rfl
    have kt : W2.cell? ⟨w.heap.size + 1, 0, none⟩ = some (.int .i64 tick) := by rw [cell_of_row W2 _ 0 _ _ _ ht2]; rfl
    have km : W2.cell? ⟨w.heap.size + 1 + 1, 0, none⟩ = some (.int .i64 mo) := by rw [cell_of_row W2 _ 0 _ _ _ hm2]; rfl
    have ks : W2.cell? ⟨w.heap.size + 1 + 1 + 1, 0, none⟩ = some (.int .i64 su) := by rw [cell_of_row W2 _ 0 _ _ _ hs2]; rfl
    have fm := blk_frozen hm2 0
    have fs := blk_frozen hs2 0
    have HM2 := Aside0.mk hm2
    have HS2 := Aside0.mk hs2
    clear hr2 hm2 hs2 hp2 ht2 hO hz HG0 HG1 HM HS
    gi_wp2
    all_goals
      show Keeps _ _ _ ∧ _ ∧ _
      refine ⟨((Keeps.refl _ _).setCell (.inl (.inr rfl)) _).setCell (.inl (.inl rfl)) _, ?_, ?_⟩
      · refine (heap_setCell_same ((Below.heap_setCell _ _ _ _ (by simp)).trans HM2.out) _).trans ?_
        rw [HN.out]
        simp only [stepB, mx]
        first
          | (rw [if_pos (by omega)]; rfl)
          | (rw [if_neg (by omega)]; rfl)
      · refine (Below.heap_setCell _ _ _ _ (by simp)).trans ((heap_setCell_same HS2.out _).trans ?_)
        rw [HN.out]
        rfl
  case done =>
    intro D Wd hD hI hK hKd
    obtain ⟨hm, hs⟩ := hI
    have km : Wd.cell? ⟨w.heap.size + 1 + 1, 0, none⟩ = some (.int .i64 (foldB num den tick (upto tick (backs l))).1) := by rw [cell_of_row Wd _ 0 _ _ _ hm]; rfl
    clear hm hs g0 g1 g2 g3 g4 g5 cS cT
    gi_wp2
    refine ⟨by simp, .inl ⟨_, _, rfl, run_takeDeferred hKd, ?_⟩⟩
    refine ⟨_, results_tmp rfl _ _ _, by simp [owedX], ?_⟩
    refine (hbw.trans (hK.below (by omega) (fun i hi => by omega))).trans (below_putObj _ (by omega) _)
  case stop =>
    intro D cd pre Wd _ _ h _ _
    exact h.elim
end Go.Proofs.Ytmlpahjmebfgbaa.Own
