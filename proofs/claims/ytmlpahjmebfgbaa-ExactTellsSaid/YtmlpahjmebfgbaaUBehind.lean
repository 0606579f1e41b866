/- Lemmas for a claim of this seat: texts of this session and of the kit's print, without what this claim does not use. -/
import Derived.Test.YtmlpahjmebfgbaaUBack
import Derived.Shelf.Abstract
namespace Go.Proofs.Ytmlpahjmebfgbaa.Own
open Go.RowKit Go.Proofs.YtmlpahjmebfgbaaW.PrintWords Go.Proofs.YtmlpahjmebfgbaaW.PrintLast Go.Proofs.Ytmlpahjmebfgbaa.PEx
set_option linter.unusedVariables false
set_option linter.unusedSimpArgs false
attribute [local go_sem] Oper.semAt_some

abbrev encR (r : S42) : Array Value := #[.agg #[.int .i64 r.f0, .string r.f1, .int .i64 r.f2, .int .i64 r.f3]]
def upto (tick : Int) (l : List (Int × S42)) : List S42 := (l.map (·.2)).filter fun r => decide (r.f0 ≤ tick)
theorem upto_snoc (tick : Int) (l : List (Int × S42)) (x : Int × S42) : upto tick (l ++ [x]) = upto tick l ++ (if x.2.f0 ≤ tick then [x.2] else []) := by
  unfold upto
  rw [List.map_append, List.filter_append]
  by_cases h : x.2.f0 ≤ tick <;> simp [h]
theorem upto_pre (tick : Int) {a b : List (Int × S42)} (h : a <+: b) : upto tick a <+: upto tick b := (h.map _).filter _

set_option maxRecDepth 100000 in
set_option maxHeartbeats 1000000 in
theorem backward_mk (m : Nat) (A : Option Addr) (n c : Nat) (w : World) :
    CallsIn Fence.wide m Try.prog 71 #[.slice A n c] w fun e w' => e = .returned (.func (.func 80) #[] #[.pointer (some ⟨w.heap.size, 0, none⟩)]) ∧ w' = w.alloc (.cells #[.slice A n c] 63) := by
  refine callsIn_of_wp Try.func71 rfl trivial ?_ rfl
  simp only [Try.ntmps71, List.size_toArray, List.length_cons, List.length_nil, Nat.reduceAdd, Nat.reduceSub, Array.replicate_succ, Array.replicate_zero, List.push_toArray, List.append_toArray, List.nil_append, List.cons_append]
  gi_wp2
  go_ret
  exact ⟨rfl, rfl⟩

set_option maxRecDepth 100000 in
set_option maxHeartbeats 2000000 in
theorem behind_fn (m Bs Bt : Nat) (A : Option Addr) (c : Nat) (l : List S42) (tick : Int) (w : World) (hB : w.cell? ⟨Bs, 0, none⟩ = some (.slice A l.length c)) (hT : w.cell? ⟨Bt, 0, none⟩ = some (.int .i64 tick)) (hr : Kd.C k42 w A l.length l) :
    Iter Try.prog m 70 #[.pointer (some ⟨Bs, 0, none⟩), .pointer (some ⟨Bt, 0, none⟩)] encR (upto tick (backs l)) (fun k => k = Bs ∨ k = Bt ∨ ∃ ad, A = some ad ∧ 0 < l.length ∧ k = ad.block) w := by
  intro y ex J Jx W hW hex hcare hJ hJx hY h0
  have hBlt : Bs < w.heap.size := World.block_lt_of_cell? w _ hB
  have hTlt : Bt < w.heap.size := World.block_lt_of_cell? w _ hT
  refine callsIn_of_wp_marks Try.func70 rfl trivial ?_
  simp only [Try.ntmps70, List.size_toArray, List.length_cons, List.length_nil, Nat.reduceAdd, Nat.reduceSub, Array.replicate_succ, Array.replicate_zero, List.push_toArray, List.append_toArray, List.nil_append, List.cons_append]
  have hBW : W.cell? ⟨Bs, 0, none⟩ = some (.slice A l.length c) := (hW.cell (p := ⟨Bs, 0, none⟩) hBlt).trans hB
  have hTW : W.cell? ⟨Bt, 0, none⟩ = some (.int .i64 tick) := (hW.cell (p := ⟨Bt, 0, none⟩) hTlt).trans hT
  have hba := (World.cell?_alloc_lt W (.cells #[.func (.yield y) #[] #[]] 107) ⟨Bs, 0, none⟩ (Nat.lt_of_lt_of_le hBlt hW.size)).trans hBW
  gi_wp2_with (refine ⟨trivial, fun h => (by cases h), ?_⟩; gi_at_call 71; refine (backward_mk _ _ _ _ _).mono ?_; rintro e w' ⟨rfl, rfl⟩)
  have hY0 : ((W.alloc (.cells #[.func (.yield y) #[] #[]] 107)).alloc (.cells #[.slice A l.length c] 63)).heap[W.heap.size]? = some (.cells #[.func (.yield y) #[] #[]] 107 (0, 0)) := (Below.heap_alloc (W.alloc (.cells #[.func (.yield y) #[] #[]] 107)) _ W.heap.size (by simp)).trans (heap_alloc_new W _)
  have hS0 : ((W.alloc (.cells #[.func (.yield y) #[] #[]] 107)).alloc (.cells #[.slice A l.length c] 63)).heap[W.heap.size + 1]? = some (.cells #[.slice A l.length c] 63 (0, 0)) := by
    have := heap_alloc_new (W.alloc (.cells #[.func (.yield y) #[] #[]] 107)) (.cells #[.slice A l.length c] 63 (0, 0)); rwa [World.size_alloc] at this
  have hz0 : ((W.alloc (.cells #[.func (.yield y) #[] #[]] 107)).alloc (.cells #[.slice A l.length c] 63)).heap.size = W.heap.size + 2 := by simp
  have hb0 : Below W.heap.size W ((W.alloc (.cells #[.func (.yield y) #[] #[]] 107)).alloc (.cells #[.slice A l.length c] 63)) := ((Below.refl _ W).alloc (Nat.le_refl _) _).alloc (by simp) _
  generalize (W.alloc (.cells #[.func (.yield y) #[] #[]] 107)).alloc (.cells #[.slice A l.length c] 63) = Wb at hY0 hS0 hz0 hb0 ⊢
  have hTb : Wb.cell? ⟨Bt, 0, none⟩ = some (.int .i64 tick) := (hb0.cell (p := ⟨Bt, 0, none⟩) (Nat.lt_of_lt_of_le hTlt hW.size)).trans hTW
  have hrb : Kd.C k42 Wb A l.length l := Kd.C_below (Kd.C_below hr hW) hb0
  have hSb : Wb.cell? ⟨W.heap.size + 1, 0, none⟩ = some (.slice A l.length c) := by rw [cell_of_row Wb _ 0 _ _ _ hS0]; rfl
  have hTW' : Bt < W.heap.size := Nat.lt_of_lt_of_le hTlt hW.size
  have hblk : ∀ ad, A = some ad → 0 < l.length → ad.block < W.heap.size := fun ad eA h => by
    obtain ⟨ad', eA', c0, _⟩ := at_T42 hr 0 (by omega) (by omega)
    rw [eA] at eA'; cases eA'
    have := World.block_lt_of_cell? w _ c0
    rw [block_of_add] at this
    exact Nat.lt_of_lt_of_le this hW.size
  refine wpIn_range_iter (m := m) rfl (enters_of Try.func80 (by kernel_rfl) rfl) (backward_fn m (W.heap.size + 1) A c l Wb hSb hrb) (Below.refl _ _) (fun _ => rfl)
    ex (fun k hk => by have := hex k hk; omega)
    (fun k hk => by
      rcases hk with rfl | ⟨ad, eA, hl, rfl⟩
      · exact ⟨fun h => by have := hex _ h; omega, by omega⟩
      · exact ⟨hcare _ (.inr (.inr ⟨ad, eA, hl, rfl⟩)), by have := hblk ad eA hl; omega⟩)
    (fun pre Wx => J (upto tick pre) Wx ∧ Wx.heap[W.heap.size]? = some (.cells #[.func (.yield y) #[] #[]] 107 (0, 0)) ∧ Wx.cell? ⟨Bt, 0, none⟩ = some (.int .i64 tick))
    (fun cd pre Wx => cd = .ret ∧ ∃ p, p <+: upto tick (backs l) ∧ Jx p Wx)
    (fun pre A B h hb => ⟨hJ _ _ _ h.1 (hb.mono (by omega)), (hb.block _ (by omega)).trans h.2.1, (hb.cell (p := ⟨Bt, 0, none⟩) (show Bt < Wb.heap.size by omega)).trans h.2.2⟩)
    (fun cd pre A B h hb => by obtain ⟨h1, p, h2, h3⟩ := h; exact ⟨h1, p, h2, hJx _ _ _ h3 (hb.mono (by omega))⟩)
    ⟨hJ _ _ _ h0 hb0, hY0, hTb⟩ ?round ?done ?stop
  case round =>
    intro lr pre x Wr hl hlt hI hK hpre
    obtain ⟨hj, hyb, htk⟩ := hI
    have HJ := Aside0.mk hj
    have HJS := Aside0.mk hJ
    have HC := Aside0.mk hcare
    have HYB := Aside0.mk hyb
    have HZ := Aside0.mk hz0
    clear hBW hTW hba hY0 hS0 hz0 hTb hSb hrb hB hT hr hj hyb hcare hJ hJx h0
    have HTK := Aside0.mk htk
    clear htk
    gi_wp2
    have hz := HZ.out
    have hTn : Bt < Wr.heap.size := by omega
    refine ⟨(Keeps.refl _ _).alloc _, ⟨HJS.out _ _ _ HJ.out ((Below.refl _ _).alloc (by omega) _), (Below.heap_alloc _ _ _ (by omega)).trans HYB.out, (World.cell?_alloc_lt _ _ _ hTn).trans HTK.out⟩, ?_⟩
    intro W2 hO
    have hr2 : W2.heap[Wr.heap.size]? = some (.cells #[.int .i64 x.2.f0, .string x.2.f1, .int .i64 x.2.f2, .int .i64 x.2.f3] 42 (0, 0)) := (hO.other _ (by omega)).trans (heap_alloc_new Wr _)
    have hj2 : J (upto tick pre) W2 := HJS.out _ _ _ HJ.out (((Below.refl _ Wr).alloc (by omega) _).trans (hO.below (by omega)))
    have hy2 : W2.heap[W.heap.size]? = some (.cells #[.func (.yield y) #[] #[]] 107 (0, 0)) := (hO.other _ (by omega)).trans ((Below.heap_alloc _ _ _ (by omega)).trans HYB.out)
    have ht2 : W2.cell? ⟨Bt, 0, none⟩ = some (.int .i64 tick) := ((hO.below (B := Wb.heap.size) (by omega)).cell (p := ⟨Bt, 0, none⟩) (show Bt < Wb.heap.size by omega)).trans ((World.cell?_alloc_lt _ _ _ hTn).trans HTK.out)
    have hsz : W.heap.size < W2.heap.size := (Array.getElem?_eq_some_iff.1 hy2).1
    have e0 : W2.cell? ⟨Wr.heap.size, 0, none⟩ = some (.int .i64 x.2.f0) := by rw [cell_of_row W2 _ 0 _ _ _ hr2]; rfl
    have e1 : W2.cell? ⟨Wr.heap.size, 1, none⟩ = some (.string x.2.f1) := by rw [cell_of_row W2 _ 1 _ _ _ hr2]; rfl
    have e2 : W2.cell? ⟨Wr.heap.size, 2, none⟩ = some (.int .i64 x.2.f2) := by rw [cell_of_row W2 _ 2 _ _ _ hr2]; rfl
    have e3 : W2.cell? ⟨Wr.heap.size, 3, none⟩ = some (.int .i64 x.2.f3) := by rw [cell_of_row W2 _ 3 _ _ _ hr2]; rfl
    have ey : W2.cell? ⟨W.heap.size, 0, none⟩ = some (.func (.yield y) #[] #[]) := by rw [cell_of_row W2 _ 0 _ _ _ hy2]; rfl
    have HY2 := Aside0.mk hy2
    clear hr2 hy2 hO HJ HYB HTK hz
    have hnx : ∀ W', Keeps ex W2 W' → Aside0 (W'.heap[W.heap.size]? = some (.cells #[.func (.yield y) #[] #[]] 107 (0, 0)) ∧ W'.cell? ⟨Bt, 0, none⟩ = some (.int .i64 tick)) := fun W' hk =>
      ⟨(hk.block _ hsz (fun h => by have := hex _ h; omega)).trans HY2.out, (hk.cell (p := ⟨Bt, 0, none⟩) (show Bt < W2.heap.size by omega) (HC.out _ (.inr (.inl rfl)))).trans ht2⟩
    have HNX := Aside0.mk hnx
    clear hnx
    by_cases hx : x.2.f0 ≤ tick
    · obtain ⟨fn, tmps, assign, body, hyy, hR⟩ := hY (upto tick pre) x.2 W2 hj2 (by have := upto_pre tick hpre; rwa [upto_snoc, if_pos hx] at this)
      simp only [encR] at hyy
      gi_wp2
      refine ⟨fun h => (by cases h), (round_any hR).mono ?_⟩
      rintro e W3 ⟨hk3, (⟨rfl, hJ3⟩ | ⟨rfl, hJ3⟩)⟩
      · clear e0 e1 e2 e3 ey hyy
        gi_wp2
        refine ⟨hk3, ?_, (HNX.out _ hk3).out⟩
        rw [upto_snoc, if_pos hx]; exact hJ3
      · clear e0 e1 e2 e3 ey hyy
        gi_wp2
        exact ⟨hk3, rfl, _, by have := upto_pre tick hpre; rwa [upto_snoc, if_pos hx] at this, hJ3⟩
    · gi_wp2
      refine ⟨fun _ h => (by cases h), ?_⟩
      gi_wp2
      refine ⟨Keeps.refl _ _, ?_, HY2.out, ht2⟩
      rw [upto_snoc, if_neg (by omega), List.append_nil]; exact hj2
  case done =>
    intro D Wd hD hI hK hKd
    gi_wp2
    refine ⟨by simp, .inl ⟨_, _, rfl, run_takeDeferred hKd, ?_⟩⟩
    refine ⟨_, results_none rfl _ _ _, ⟨_, rfl⟩, ?_, .inl (hJ _ _ _ hI.1 (below_putObj _ (by omega) _))⟩
    exact ((Keeps.of_below hb0 ex).trans hK).putObj (.inr (by omega)) _
  case stop =>
    rintro D cd pre Wd hD hpre ⟨rfl, p, hp, hI⟩ hK hKd
    gi_wp2
    refine ⟨by simp, .inl ⟨_, _, rfl, run_takeDeferred hKd, ?_⟩⟩
    refine ⟨_, results_none rfl _ _ _, ⟨_, rfl⟩, ?_, .inr ⟨p, hp, hJx _ _ _ hI (below_putObj _ (by omega) _)⟩⟩
    exact ((Keeps.of_below hb0 ex).trans hK).putObj (.inr (by omega)) _
end Go.Proofs.Ytmlpahjmebfgbaa.Own
