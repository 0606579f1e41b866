/- Layer 8, the window, where the policy may be: a window at a later tick. -/
import Derived.Test.YtnodnpenlplleaaWinD
namespace Go.Proofs.Ytnodnpenlplleaa.Own
open Go.RowKit Go.Proofs.YtnodnpenlplleaaW.PrintWords Go.Proofs.YtnodnpenlplleaaW.PrintLast Go.Proofs.YtnodnpenlplleaaW.PrintMore
set_option linter.unusedVariables false
set_option linter.unusedSimpArgs false

theorem infoIntS : (Try.prog.info? 3).map (·.size) = some 1 := by kernel_rfl
/-- A window at a later tick. -/
def moveL (count : Int) (g tg : Int) (l : List Int) : List Int := if tg - g < count then l.drop (tg - g).toNat ++ List.replicate (tg - g).toNat 0 else List.replicate count.toNat 0
def moveX (width count : Int) (g : Int) (l : List Int) (tick : Int) : Int × List Int := if tick / width ≤ g then (g, l) else (tick / width, moveL count g (tick / width) l)

theorem copy_list {l : List Int} {n m : Nat} (h : n = l.length) (hm : m ≤ l.length) : (l.drop m).take (min (l.length - m) (List.replicate n (0 : Int)).length) ++ (List.replicate n (0 : Int)).drop (min (l.length - m) (List.replicate n (0 : Int)).length) = l.drop m ++ List.replicate m 0 := by
  subst h
  have h1 : (l.drop m).length = l.length - m := List.length_drop
  rw [List.length_replicate, Nat.min_eq_left (by omega), List.take_of_length_le (by omega), List.drop_replicate]
  congr 2
  omega

set_option maxRecDepth 100000 in
set_option maxHeartbeats 2000000 in
theorem MoveW_fn (p : Pol) (g tick : Int) (A : Option Addr) (c : Nat) (l : List Int) (w : World) (hp : p.ok) (hk : p.kind = 2) (hr : Kd.C (Kd.int .i64) w A l.length l) (hw : okW p g l) (h0 : 0 ≤ tick) (h1 : tick ≤ 1099511627776) :
    Calls Try.prog 140 #[p.val, .agg #[.int .i64 g, .slice A l.length c], .int .i64 tick] w fun e w' =>
      ∃ v, e = .returned (.agg #[.int .i64 (moveX p.width p.count g l tick).1, v]) ∧ Kd.R (Kd.int .i64) 3 w' w.heap.size (fun _ => True) v (moveX p.width p.count g l tick).2 ∧ Below w.heap.size w w' := by
  have HM := Aside0.mk (fun w' => wmeans_fn p w' hp hk)
  have HGR := Aside0.mk (fun w' => Grid_fn p tick w' hp hk h0 h1)
  have HFR := Aside0.mk (fun w' => Fresh_fn p tick w' hp hk h0 h1)
  have HCO := Aside0.mk (fun w' hr' => counts_fn p g A c l w' hp hk hr' hw)
  have hpi := Pol.is hp
  obtain ⟨kind, cap, num, den, width, count, keys, slots, every, seg⟩ := p
  simp only at hk hpi
  subst hk
  obtain ⟨hw1, hw2, hw3, hw4⟩ := hw
  simp only [Pol.val, Pol.cells] at HM HGR HFR HCO hw2 hw3 ⊢
  have t0 : 0 ≤ tick / width := Int.ediv_nonneg h0 (by omega)
  have t1 : tick / width ≤ tick := Int.ediv_le_self _ h0
  have g1 : g ≤ 1099511627776 := Int.le_trans hw2 (Int.ediv_le_self _ (by omega))
  have hc1 : count ≤ 32 := by omega
  have hl0 : 0 < l.length := by omega
  have k0 : 0 ≤ g := hw1
  have k1 : tick ≤ 1099511627776 := h1
  have HC0 := Aside0.mk hr
  obtain ⟨tg, hto⟩ : ∃ tg, tick / width = tg := ⟨_, rfl⟩
  obtain ⟨⟨mg, ml⟩, hmx⟩ : ∃ m, moveX width count g l tick = m := ⟨_, rfl⟩
  rw [hmx]
  unfold moveX at hmx
  rw [hto] at hmx t0 t1
  simp only [hto] at HGR HFR
  have HMX := Aside0.mk hmx
  clear hmx hto
  obtain ⟨W0, hW0⟩ : ∃ W0, ((w.alloc (.cells #[.int .i64 2, .int .i64 cap, .int .i64 num, .int .i64 den, .int .i64 width, .int .i64 count, .int .i64 keys, .int .i64 slots, .int .i64 every, .int .i64 seg] 23 (0, 0))).alloc (.cells #[.int .i64 g, .slice A l.length c] 106 (0, 0))).alloc (.cells #[.int .i64 0, .slice none 0 0] 106 (0, 0)) = W0 := ⟨_, rfl⟩
  have hb0 : Below w.heap.size w W0 := by rw [← hW0]; exact (((Below.refl _ w).alloc (Nat.le_refl _) _).alloc (by simp) _).alloc (by simp; omega) _
  have hs0 : W0.heap.size = w.heap.size + 1 + 1 + 1 := by rw [← hW0]; simp
  have hp0 : W0.heap[w.heap.size]? = some (.cells #[.int .i64 2, .int .i64 cap, .int .i64 num, .int .i64 den, .int .i64 width, .int .i64 count, .int .i64 keys, .int .i64 slots, .int .i64 every, .int .i64 seg] 23 (0, 0)) := by
    rw [← hW0]; exact ((((Below.refl (w.heap.size + 1) _).alloc (by simp) _).alloc (by simp) _).block _ (by omega)).trans (heap_alloc_new w _)
  have hx0 : W0.heap[w.heap.size + 1]? = some (.cells #[.int .i64 g, .slice A l.length c] 106 (0, 0)) := by
    rw [← hW0]
    have h := heap_alloc_new (w.alloc (.cells #[.int .i64 2, .int .i64 cap, .int .i64 num, .int .i64 den, .int .i64 width, .int .i64 count, .int .i64 keys, .int .i64 slots, .int .i64 every, .int .i64 seg] 23 (0, 0))) (.cells #[.int .i64 g, .slice A l.length c] 106 (0, 0))
    rw [World.size_alloc] at h
    exact ((Below.refl (w.heap.size + 1 + 1) _).alloc (by simp) _).block _ (by omega) |>.trans h
  have hr0 : W0.heap[w.heap.size + 1 + 1]? = some (.cells #[.int .i64 0, .slice none 0 0] 106 (0, 0)) := by
    rw [← hW0]
    have h := heap_alloc_new ((w.alloc (.cells #[.int .i64 2, .int .i64 cap, .int .i64 num, .int .i64 den, .int .i64 width, .int .i64 count, .int .i64 keys, .int .i64 slots, .int .i64 every, .int .i64 seg] 23 (0, 0))).alloc (.cells #[.int .i64 g, .slice A l.length c] 106 (0, 0))) (.cells #[.int .i64 0, .slice none 0 0] 106 (0, 0))
    rw [World.size_alloc, World.size_alloc] at h
    exact h
  have HW := Aside0.mk hW0
  have HP0 := Aside0.mk hp0
  have HX0 := Aside0.mk hx0
  have HR0 := Aside0.mk hr0
  have HB0 := Aside0.mk hb0
  have HS0 := Aside0.mk hs0
  have HW3 := Aside0.mk hw3
  have HD := Aside0.mk hpi
  clear hW0 hp0 hx0 hr0 hb0 hs0 hpi hp hw1 hw2 hw4 hr hw3 h0 h1
  go_enter Try.func140, Try.ntmps140
  go_wp2_with (first | ((with_reducible refine gload 23 rfl ?_); rw [HW.out]; refine wpList_load_blk rfl 23 _ rfl w.heap.size _ 23 _ rfl HP0.out _ Try.underlying23 rfl infoPol ?_) | fail)
  refine (HM.out _).mono ?_
  rintro e w1 ⟨rfl, hb1⟩
  have HP1 := Aside0.mk ((hb1.block _ (by have := HS0.out; omega)).trans HP0.out)
  have HX1 := Aside0.mk ((hb1.block _ (by have := HS0.out; omega)).trans HX0.out)
  have HR1 := Aside0.mk ((hb1.block _ (by have := HS0.out; omega)).trans HR0.out)
  have HB1 := Aside0.mk (HB0.out.trans (hb1.mono HB0.out.size))
  have HS1 := Aside0.mk (show w.heap.size + 1 + 1 < w1.heap.size from by have := hb1.size; have := HS0.out; omega)
  clear hb1 HP0 HX0 HR0 HB0 HM HW
  go_wp2_with (first | ((with_reducible refine gload 23 rfl ?_); refine wpList_load_blk rfl 23 _ rfl w.heap.size _ 23 _ rfl HP1.out _ Try.underlying23 rfl infoPol ?_) | ((with_reducible refine gload 106 rfl ?_); refine wpList_load_blk rfl 106 _ rfl (w.heap.size + 1) _ 106 _ rfl HX1.out _ Try.underlying106 rfl infoSums ?_) | fail)
  refine (HCO.out _ (Kd.C_below HC0.out HB1.out)).mono ?_
  rintro e w2 ⟨v2, rfl, hR2, hb2⟩
  obtain ⟨A2, c2, ev, hc2, hC2⟩ := Kd.R_reads hR2
  subst ev
  have HP2 := Aside0.mk ((hb2.block _ (by have := HS1.out; omega)).trans HP1.out)
  have HX2 := Aside0.mk ((hb2.block _ (by have := HS1.out; omega)).trans HX1.out)
  have HRR2 := Aside0.mk ((hb2.block _ (by have := HS1.out; omega)).trans HR1.out)
  have HB2 := Aside0.mk (HB1.out.trans (hb2.mono HB1.out.size))
  have HS2 := Aside0.mk (show w.heap.size + 1 + 1 < w2.heap.size from by have := hb2.size; have := HS1.out; omega)
  have HV2 := Aside0.mk (Kd.R_lower hR2 HB1.out.size)
  clear hb2 hR2 hC2 HP1 HX1 HR1 HB1 HS1 HCO HC0
  go_wp2_with (first | ((with_reducible refine gstore 106 rfl ?_); refine wpList_store_blk rfl 106 _ _ rfl (w.heap.size + 1) 0 #[.int .i64 g, .slice A l.length c] 106 #[.int .i64 g, .slice A2 l.length c2] rfl rfl HX2.out (by simp) infoSums (by simp [Value.oneCell']) ?_; intro w3 hx3 ho3; have HX3 := Aside0.mk hx3; have HP3 := Aside0.mk ((ho3.other _ (by omega)).trans HP2.out); have HR3 := Aside0.mk ((ho3.other _ (by omega)).trans HRR2.out); have HB3 := Aside0.mk (HB2.out.trans (ho3.below (by omega))); have HV3 := Aside0.mk (R_only HV2.out HX2.out (by decide) ho3); have HS3 := Aside0.mk (show w.heap.size + 1 + 1 < w3.heap.size from by have := ho3.size; have := HS2.out; omega); clear hx3 ho3 HX2 HP2 HRR2 HB2 HV2 HS2) | ((with_reducible refine gload 23 rfl ?_); refine wpList_load_blk rfl 23 _ rfl w.heap.size _ 23 _ rfl HP3.out _ Try.underlying23 rfl infoPol ?_) | fail)
  refine (HGR.out _).mono ?_
  rintro e w4 ⟨rfl, hb4⟩
  have HX4 := Aside0.mk ((hb4.block _ (by have := HS3.out; omega)).trans HX3.out)
  have HP4 := Aside0.mk ((hb4.block _ (by have := HS3.out; omega)).trans HP3.out)
  have HR4 := Aside0.mk ((hb4.block _ (by have := HS3.out; omega)).trans HR3.out)
  have HB4 := Aside0.mk (HB3.out.trans (hb4.mono HB3.out.size))
  have HV4 := Aside0.mk (Kd.R_below HV3.out hb4)
  have HS4 := Aside0.mk (show w.heap.size + 1 + 1 < w4.heap.size from by have := hb4.size; have := HS3.out; omega)
  have cg : w4.cell? ⟨w.heap.size + 1, 0, none⟩ = some (.int .i64 g) := by rw [cell_of_row w4 _ 0 _ _ _ HX4.out]; rfl
  clear hb4 HX3 HP3 HR3 HB3 HV3 HS3 HGR
  by_cases hle : tg ≤ g
  · have hm := HMX.out
    rw [if_pos hle] at hm
    cases hm
    go_wp2_with (first | ((with_reducible refine gload 106 rfl ?_); refine wpList_load_blk rfl 106 _ rfl (w.heap.size + 1) _ 106 _ rfl HX4.out _ Try.underlying106 rfl infoSums ?_) | ((with_reducible refine gstore 106 rfl ?_); refine wpList_store_blk rfl 106 _ _ rfl (w.heap.size + 1 + 1) 0 #[.int .i64 0, .slice none 0 0] 106 #[.int .i64 g, .slice A2 l.length c2] rfl rfl HR4.out (by simp) infoSums (by simp [Value.oneCell']) ?_; intro w5 hx5 ho5; have HX5 := Aside0.mk hx5; have HB5 := Aside0.mk (HB4.out.trans (ho5.below (by omega))); have HV5 := Aside0.mk (R_only HV4.out HR4.out (by decide) ho5); clear hx5 ho5) | fail)
    exact ⟨rfl, _, results_cell rfl _ _ (w.heap.size + 1 + 1) 106 _ _ _ rfl HX5.out Try.underlying106 rfl infoSums, _, rfl, HV5.out, HB5.out⟩
  · have hm := HMX.out
    rw [if_neg hle] at hm
    cases hm
    go_wp2_with (first | ((with_reducible refine gload 23 rfl ?_); refine wpList_load_blk rfl 23 _ rfl w.heap.size _ 23 _ rfl HP4.out _ Try.underlying23 rfl infoPol ?_) | fail)
    refine (HFR.out _).mono ?_
    rintro e w5 ⟨v5, rfl, hR5, hb5⟩
    obtain ⟨A5, c5, ev, hc5, hC5⟩ := Kd.R_reads hR5
    rw [List.length_replicate] at ev
    subst ev
    have HX5 := Aside0.mk ((hb5.block _ (by have := HS4.out; omega)).trans HX4.out)
    have HP5 := Aside0.mk ((hb5.block _ (by have := HS4.out; omega)).trans HP4.out)
    have HR5 := Aside0.mk ((hb5.block _ (by have := HS4.out; omega)).trans HR4.out)
    have HB5 := Aside0.mk (HB4.out.trans (hb5.mono HB4.out.size))
    have HV5 := Aside0.mk (Kd.R_below HV4.out hb5)
    have HF5 := Aside0.mk hR5
    have hs45 := hb5.size
    have HS5 := Aside0.mk (show w.heap.size + 1 + 1 < w5.heap.size from by have := HS4.out; omega)
    clear hb5 hR5 hC5 HX4 HP4 HR4 HB4 HV4 cg HFR
    have hcn : (count.toNat : Int) = count := by have := HW3.out; omega
    have x1 : IntKind.i64.wrap (tg - g) = tg - g := IntWalk.i64_in _ (by omega)
    have hg0 : 0 ≤ tg - g := by omega
    by_cases hlt : tg - g < count
    · have HML := Aside0.mk (show moveL count g tg l = l.drop (tg - g).toNat ++ List.replicate (tg - g).toNat 0 from by rw [moveL, if_pos hlt])
      go_wp2_with (first | ((with_reducible refine gstore 106 rfl ?_); refine wpList_store_blk rfl 106 _ _ rfl w5.heap.size 0 #[.int .i64 0, .slice none 0 0] 106 #[.int .i64 tg, .slice A5 count.toNat c5] rfl rfl (heap_alloc_new w5 _) (by simp) infoSums (by simp [Value.oneCell']) ?_; intro w6 hx6 ho6; have hb6 : Below w5.heap.size w5 w6 := ((Below.refl _ w5).alloc (Nat.le_refl _) _).trans (ho6.below (Nat.le_refl _)); have HX6 := Aside0.mk ((hb6.block _ (by have := HS5.out; omega)).trans HX5.out); have HP6 := Aside0.mk ((hb6.block _ (by have := HS5.out; omega)).trans HP5.out); have HR6 := Aside0.mk ((hb6.block _ (by have := HS5.out; omega)).trans HR5.out); have HB6 := Aside0.mk (HB5.out.trans (hb6.mono HB5.out.size)); have HV6 := Aside0.mk (Kd.R_below HV5.out hb6); have HF6 := Aside0.mk (Kd.R_lower (Kd.R_below HF5.out hb6) (show w.heap.size ≤ w4.heap.size from by have := HS4.out; omega)); have HN6 := Aside0.mk hx6; have hl6 := hb6.size; have hlt6 := (Array.getElem?_eq_some_iff.1 hx6).1; have cg : w6.cell? ⟨w.heap.size + 1, 0, none⟩ = some (.int .i64 g) := (by rw [cell_of_row w6 _ 0 _ _ _ HX6.out]; rfl); have cc : w6.cell? ⟨w.heap.size, 5, none⟩ = some (.int .i64 count) := (by rw [cell_of_row w6 _ 5 _ _ _ HP6.out]; rfl); clear hx6 ho6 hb6 HX5 HP5 HR5 HB5 HV5 HF5) | fail)
      have hs6 : w.heap.size + 1 + 1 < w6.heap.size := by have := HS5.out; omega
      obtain ⟨j, hj⟩ : ∃ j : Nat, tg - g = (j : Int) := ⟨_, (Int.toNat_of_nonneg hg0).symm⟩
      have hjl : j ≤ l.length := by have := HW3.out; omega
      rw [hj] at HML ⊢
      rw [Int.toNat_natCast] at HML
      have k2 : w6.cell? ⟨w5.heap.size, 1, none⟩ = some (.slice A5 count.toNat c5) := by rw [cell_of_row w6 _ 1 _ _ _ HN6.out]; rfl
      have k3 : w6.cell? ⟨w.heap.size + 1, 1, none⟩ = some (.slice A2 l.length c2) := by rw [cell_of_row w6 _ 1 _ _ _ HX6.out]; rfl
      obtain ⟨i3, hi3, hz3⟩ := Option.map_eq_some_iff.1 infoInt
      have hcut := cut_from (P := Try.prog) 61 3 .i64 Try.underlying61 hi3 1 (by simp only [Prod.mk.injEq] at hz3; exact hz3.2.1) A2 l.length c2 (j : Int) (by omega) (by omega)
      rw [Int.toNat_natCast] at hcut
      have hcd := Kd.C_drop (m := j) (c := c2) (Kd.C_drew (Kd.R_reads' HV6.out).2.2) hjl hc2
      have esz : j * (Kd.int .i64).sz = j := Nat.mul_one j
      rw [List.length_drop] at hcd
      simp only [esz] at hcd
      have HCD := Aside0.mk hcd
      clear hcd esz
      have HJ := Aside0.mk hj
      clear hi3 hz3 hj x1 hg0 hlt cg cc
      go_still_tail 6, (by kernel_rfl)
      change wpList _ _ _ _ _ w6.drew
      refine Kd.R_copy (enc := Value.int .i64) (h1 := fun _ => rfl) (0 : Int) (w0 := w) w.heap.size rfl (.tmp 37) (.tmp 41) 61 61 3 rfl Try.underlying61 infoIntS (.slice A5 count.toNat c5) (List.replicate count.toNat 0) (l.drop j) _ _ _ (fun _ => True) rfl rfl (Kd.R_drew HF6.out) HCD.out HB6.out.drew (by show w.heap.size ≤ w6.heap.size; omega) ?_
      intro w7 ho hb hg
      have HF7 := Aside0.mk ho
      have HB7 := Aside0.mk hb
      have HN7 := Aside0.mk ((hg.block _ (show w5.heap.size < w6.heap.size from hlt6) (Kd.R_ne (Kd.R_drew HF6.out) (show w6.drew.heap[w5.heap.size]? = _ from HN6.out) (by decide))).trans HN6.out)
      have HR7 := Aside0.mk ((hg.block _ (show w.heap.size + 1 + 1 < w6.heap.size from hs6) (Kd.R_ne (Kd.R_drew HF6.out) (show w6.drew.heap[w.heap.size + 1 + 1]? = _ from HR6.out) (by decide))).trans HR6.out)
      clear ho hb hg hcut k2 k3 HCD HF6 HB6 HN6 HR6 HX6 HP6 HV6
      go_wp2_with (first | ((with_reducible refine gload 106 rfl ?_); refine wpList_load_blk rfl 106 _ rfl w5.heap.size _ 106 _ rfl HN7.out _ Try.underlying106 rfl infoSums ?_) | ((with_reducible refine gstore 106 rfl ?_); refine wpList_store_blk rfl 106 _ _ rfl (w.heap.size + 1 + 1) 0 #[.int .i64 0, .slice none 0 0] 106 #[.int .i64 tg, .slice A5 count.toNat c5] rfl rfl HR7.out (by simp) infoSums (by simp [Value.oneCell']) ?_; intro w9 hx9 ho9; have HX9 := Aside0.mk hx9; have HB9 := Aside0.mk (HB7.out.trans (ho9.below (by omega))); have HV9 := Aside0.mk (R_only HF7.out HR7.out (by decide) ho9); clear hx9 ho9) | fail)
      all_goals
        have hcl := copy_list (l := l) (n := count.toNat) (m := j) (by have := HW3.out; omega) hjl
        have HV := HV9.out
        rw [hcl] at HV
        rw [HML.out]
        exact ⟨rfl, _, results_cell rfl _ _ (w.heap.size + 1 + 1) 106 _ _ _ rfl HX9.out Try.underlying106 rfl infoSums, _, rfl, HV, HB9.out⟩
    · have HML := Aside0.mk (show moveL count g tg l = List.replicate count.toNat 0 from by rw [moveL, if_neg hlt])
      go_wp2_with (first | ((with_reducible refine gstore 106 rfl ?_); refine wpList_store_blk rfl 106 _ _ rfl w5.heap.size 0 #[.int .i64 0, .slice none 0 0] 106 #[.int .i64 tg, .slice A5 count.toNat c5] rfl rfl (heap_alloc_new w5 _) (by simp) infoSums (by simp [Value.oneCell']) ?_; intro w6 hx6 ho6; have hb6 : Below w5.heap.size w5 w6 := ((Below.refl _ w5).alloc (Nat.le_refl _) _).trans (ho6.below (Nat.le_refl _)); have HX6 := Aside0.mk ((hb6.block _ (by have := HS5.out; omega)).trans HX5.out); have HP6 := Aside0.mk ((hb6.block _ (by have := HS5.out; omega)).trans HP5.out); have HR6 := Aside0.mk ((hb6.block _ (by have := HS5.out; omega)).trans HR5.out); have HB6 := Aside0.mk (HB5.out.trans (hb6.mono HB5.out.size)); have HV6 := Aside0.mk (Kd.R_below HV5.out hb6); have HF6 := Aside0.mk (Kd.R_lower (Kd.R_below HF5.out hb6) (show w.heap.size ≤ w4.heap.size from by have := HS4.out; omega)); have HN6 := Aside0.mk hx6; have hl6 := hb6.size; have hlt6 := (Array.getElem?_eq_some_iff.1 hx6).1; have cg : w6.cell? ⟨w.heap.size + 1, 0, none⟩ = some (.int .i64 g) := (by rw [cell_of_row w6 _ 0 _ _ _ HX6.out]; rfl); have cc : w6.cell? ⟨w.heap.size, 5, none⟩ = some (.int .i64 count) := (by rw [cell_of_row w6 _ 5 _ _ _ HP6.out]; rfl); clear hx6 ho6 hb6 HX5 HP5 HR5 HB5 HV5 HF5) | ((with_reducible refine gload 106 rfl ?_); refine wpList_load_blk rfl 106 _ rfl w5.heap.size _ 106 _ rfl HN6.out _ Try.underlying106 rfl infoSums ?_) | ((with_reducible refine gstore 106 rfl ?_); refine wpList_store_blk rfl 106 _ _ rfl (w.heap.size + 1 + 1) 0 #[.int .i64 0, .slice none 0 0] 106 #[.int .i64 tg, .slice A5 count.toNat c5] rfl rfl HR6.out (by simp) infoSums (by simp [Value.oneCell']) ?_; intro w9 hx9 ho9; have HX9 := Aside0.mk hx9; have HB9 := Aside0.mk (HB6.out.trans (ho9.below (by omega))); have HV9 := Aside0.mk (R_only HF6.out HR6.out (by decide) ho9); clear hx9 ho9) | fail)
      rw [HML.out]
      exact ⟨rfl, _, results_cell rfl _ _ (w.heap.size + 1 + 1) 106 _ _ _ rfl HX9.out Try.underlying106 rfl infoSums, _, rfl, HV9.out, HB9.out⟩
end Go.Proofs.Ytnodnpenlplleaa.Own
