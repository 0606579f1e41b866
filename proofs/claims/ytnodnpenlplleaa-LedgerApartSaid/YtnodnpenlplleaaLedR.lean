/- Layer 9: LedgerApart: the walk. -/
import Derived.Test.YtnodnpenlplleaaLedQ
import Derived.Test.YtnodnpenlplleaaOp
namespace Go.Proofs.Ytnodnpenlplleaa.Own
open Go.RowKit Go.Proofs.YtnodnpenlplleaaW.PrintWords Go.Proofs.YtnodnpenlplleaaW.PrintLast Go.Proofs.YtnodnpenlplleaaW.PrintMore
set_option linter.unusedVariables false
set_option linter.unusedSimpArgs false
theorem str_beq9 (y x : ByteArray) : (y.toList == x.toList) = decide (y = x) := by
  rw [Bool.eq_iff_iff, beq_iff_eq, decide_eq_true_iff]
  constructor
  · intro h
    rw [ByteArray.toList_eq, ByteArray.toList_eq] at h
    exact bytes_ext h
  · intro h
    rw [h]

set_option maxRecDepth 100000 in
set_option maxHeartbeats 4000000 in
theorem LedgerApart_fn (w : World) (p : Pol) (A : Option Addr) (cp : Nat) (l : List Po) (key : ByteArray) (hr : Kd.C kPo w A l.length l) (hc : l.length ≤ maxLen) (hs : ∀ r ∈ l, r.key.size ≤ maxLen) (hk : key.size ≤ maxLen) :
    Calls Try.prog 5 #[p.val, .slice A l.length cp, .string key] w fun e w' => e = .returned (.bool true) ∧ Below w.heap.size w w' := by
  have HNEW := Aside0.mk (fun w' => New_fn w' p)
  have HG := Aside0.mk (heap_alloc_new w (.cells p.cells 23 (0, 0)))
  have HB := Aside0.mk (show Below w.heap.size w (w.alloc (.cells p.cells 23 (0, 0))) from (Below.refl _ w).alloc (Nat.le_refl _) _)
  have HR := Aside0.mk hr
  have HSS := Aside0.mk hs
  clear hr hs
  obtain ⟨P0, hP0⟩ : ∃ P0, p = P0 := ⟨_, rfl⟩
  obtain ⟨er, her⟩ : ∃ er, P0.E = er := ⟨_, rfl⟩
  have HER := Aside0.mk her
  have HNP := Aside0.mk (show ∀ w', Calls Try.prog 14 #[.agg p.cells] w' (NewPost w' P0 er) from fun w' => by
    have h := HNEW.out w'
    rw [hP0, her] at h
    rw [hP0]
    exact h)
  clear her hP0 HNEW
  obtain ⟨kind, cap, num, den, width, count, keys, slots, every, seg⟩ := p
  simp only [Pol.val, Pol.cells] at HNP HG HB ⊢
  go_enter Try.func5, Try.ntmps5
  go_wp2_with fail
  refine (awake9_fn _).mono ?_
  rintro e w1 ⟨rfl, hb1⟩
  have HG1 := Aside0.mk ((hb1.block _ (by simp)).trans HG.out)
  have HB1 := Aside0.mk (HB.out.trans (hb1.mono (by simp)))
  clear hb1 HG HB
  go_wp2_with (first | ((with_reducible refine gload 23 rfl ?_); refine wpList_load_blk rfl 23 _ rfl w.heap.size _ 23 _ rfl HG1.out _ Try.underlying23 rfl infoPol ?_) | fail)
  refine (HNP.out _).mono ?_
  intro e w4 hpost
  rcases hpost with ⟨h0, sx, mx, rfl, h2, h3, hl, hb⟩ | ⟨h0, rfl, hb⟩
  case inr =>
    have HB4 := Aside0.mk (HB1.out.trans (hb.mono HB1.out.size))
    have HG4 := Aside0.mk ((hb.block _ (Array.getElem?_eq_some_iff.1 HG1.out).1).trans HG1.out)
    clear hb HER HSS HR HG1 HB1
    go_wp2_with (first | ((with_reducible refine gload 23 rfl ?_); refine wpList_load_blk rfl 23 _ rfl w.heap.size _ 23 _ rfl HG4.out _ Try.underlying23 rfl infoPol ?_) | fail)
    refine (HNP.out _).mono ?_
    intro e w5 hpost
    rcases hpost with ⟨h0', _⟩ | ⟨_, rfl, hb⟩
    case inl => exact absurd h0' h0
    have HB5 := Aside0.mk (HB4.out.trans (hb.mono HB4.out.size))
    clear hb HNP
    go_wp2_with fail
    go_ret
    exact ⟨rfl, HB5.out⟩
  subst h0
  have hs3 := HB1.out.size
  have HOK := Aside0.mk (show P0.ok from HER.out)
  have HLX4 := Aside0.mk (show LedI w.heap.size w4 sx mx P0 ⟨0, []⟩ from ⟨hl, new_ok HOK.out, by omega, by omega⟩)
  have HB4 := Aside0.mk (HB1.out.trans (hb.mono hs3))
  have HG4 := Aside0.mk ((hb.block _ (Array.getElem?_eq_some_iff.1 HG1.out).1).trans HG1.out)
  clear hb hl h2 h3 hs3 HB1 HG1 HER
  go_wp2_with (first | ((with_reducible refine gload 23 rfl ?_); refine wpList_load_blk rfl 23 _ rfl w.heap.size _ 23 _ rfl HG4.out _ Try.underlying23 rfl infoPol ?_) | fail)
  refine (HNP.out _).mono ?_
  intro e w5 hpost
  rcases hpost with ⟨_, sy, my, rfl, h2, h3, hl, hb⟩ | ⟨h0', _⟩
  case inr => exact absurd rfl h0'
  have hs4 := HB4.out.size
  have HLX5 := Aside0.mk (HLX4.out.below hb)
  have HLY5 := Aside0.mk (show LedI w.heap.size w5 sy my P0 ⟨0, []⟩ from ⟨hl, new_ok HOK.out, by omega, by omega⟩)
  have HNE := Aside0.mk (show sx ≠ sy ∧ mx ≠ my from ⟨by have := HLX4.out.led.lt_sb; omega, by have := HLX4.out.led.lt_mb; omega⟩)
  have HB5 := Aside0.mk (HB4.out.trans (hb.mono hs4))
  have HF0 := Aside0.mk (apart_start HOK.out key)
  clear hb hl h2 h3 hs4 HB4 HG4 HLX4 HNP HOK
  go_wp2_with fail
  go_loopw [12] (fun i wr => ∃ j : Nat, j ≤ l.length ∧ j ≤ 200 ∧ i = .int .i64 (j : Int) ∧ ∃ X Y : LSt, Aside0 (Apart P0 key X Y ∧ LedI w.heap.size wr sx mx P0 X ∧ LedI w.heap.size wr sy my P0 Y ∧ X.rows.length ≤ j ∧ Y.rows.length ≤ j ∧ Below w.heap.size w wr ∧ w.heap.size ≤ wr.heap.size)) (fun i _ => 200 - (intOf i).toNat)
  case atStart => exact ⟨0, by omega, by omega, rfl, ⟨0, []⟩, ⟨0, []⟩, ⟨HF0.out, HLX5.out, HLY5.out, Nat.le_refl _, Nat.le_refl _, HB5.out, HB5.out.size⟩⟩
  case round =>
    obtain ⟨W, rfl⟩ : ∃ W, W = wr := ⟨_, rfl⟩
    obtain ⟨j, hj, hj3, rfl, X, Y, BS⟩ := hrel
    clear HLX5 HLY5 HB5 HF0
    by_cases hlt : j < l.length ∧ j < 200
    · obtain ⟨hlt, h300⟩ := hlt
      obtain ⟨ad, eA, c0, c1, c2⟩ := atPo HR.out (j : Int) (by omega) (by omega)
      subst eA
      simp only [Int.toNat_natCast] at c0 c1 c2
      have i0 : (0 : Int) ≤ (j : Int) := by omega
      have i1 : (j : Int) < (l.length : Int) := by omega
      have i3 : (j : Int) < 200 := by omega
      have hsz := HSS.out _ (memP_rd l j hlt)
      generalize rdPo l (j : Int) = x at c0 c1 c2 hsz
      obtain ⟨hF, hX, hY, hXl, hYl, hB, hN⟩ := BS.out
      replace c0 := (hB.cell (World.block_lt_of_cell? w _ c0)).trans c0
      replace c1 := (hB.cell (World.block_lt_of_cell? w _ c1)).trans c1
      replace c2 := (hB.cell (World.block_lt_of_cell? w _ c2)).trans c2
      obtain ⟨ob, hob⟩ : ∃ ob, W.heap.size = ob := ⟨_, rfl⟩
      obtain ⟨W1, hW1⟩ : ∃ W1, W.alloc (.cells #[.int .i64 x.d, .int .i64 x.a, .string x.key] 43 (0, 0)) = W1 := ⟨_, rfl⟩
      have hb1 : Below W.heap.size W W1 := by rw [← hW1]; exact (Below.refl _ W).alloc (Nat.le_refl _) _
      have ho1 : W1.heap[ob]? = some (.cells #[.int .i64 x.d, .int .i64 x.a, .string x.key] 43 (0, 0)) := by rw [← hW1, ← hob]; exact heap_alloc_new W _
      have HOX := Aside0.mk (show ob ≠ sx ∧ ob ≠ mx ∧ ob ≠ sy ∧ ob ≠ my from by
        have h1 := hX.led.lt_sb; have h2 := hX.led.lt_mb; have h3 := hY.led.lt_sb; have h4 := hY.led.lt_mb
        omega)
      have HF := Aside0.mk hF
      have HX := Aside0.mk (hX.below hb1)
      have HY := Aside0.mk (hY.below hb1)
      have HXL := Aside0.mk hXl
      have HYL := Aside0.mk hYl
      have HB := Aside0.mk (And.intro (hB.trans (hb1.mono hN)) (Nat.le_trans hN hb1.size))
      have HO := Aside0.mk ho1
      have HW1 := Aside0.mk hW1
      have HOB := Aside0.mk hob
      clear hF hX hY hXl hYl hB hN BS hb1 ho1 hW1 hob
      have HLX := Aside0.mk (show X.rows.length ≤ 100000 from by have := HXL.out; omega)
      have HLY := Aside0.mk (show Y.rows.length ≤ 100000 from by have := HYL.out; omega)
      by_cases hd : x.d = 1
      · have HD := Aside0.mk hd
        go_wp2_with fail
        have hw1 := HW1.out
        rw [HD.out] at hw1
        rw [hw1, HOB.out]
        clear HW1 HOB c0 c1 c2 hw1
        refine (MoveI_fn w.heap.size w W1 sx mx P0 X x.a HX.out HB.out.2 HB.out.1 HLX.out).mono ?_
        rintro e w2 ⟨rfl, hx2, hb2, hk2⟩
        have HX2 := Aside0.mk hx2
        have HY2 := Aside0.mk (HY.out.beside HX.out (fun e => HNE.out.1 e.symm) (fun e => HNE.out.2 e.symm) hk2)
        have HO2 := Aside0.mk ((hk2.block ob (Array.getElem?_eq_some_iff.1 HO.out).1 (fun e => by rcases e with e | e; exact HOX.out.1 e; exact HOX.out.2.1 e)).trans HO.out)
        have HB2 := Aside0.mk hb2
        clear hx2 hb2 hk2
        have q0 : w2.cell? ⟨ob, 0, none⟩ = some (.int .i64 x.d) := by rw [cell_of_row _ _ 0 _ _ _ HO2.out]; rfl
        have q1 : w2.cell? ⟨ob, 1, none⟩ = some (.int .i64 x.a) := by rw [cell_of_row _ _ 1 _ _ _ HO2.out]; rfl
        have q2 : w2.cell? ⟨ob, 2, none⟩ = some (.string x.key) := by rw [cell_of_row _ _ 2 _ _ _ HO2.out]; rfl
        go_wp2_with fail
        refine (MoveI_fn w.heap.size w w2 sy my P0 Y x.a HY2.out HB2.out.2 HB2.out.1 HLY.out).mono ?_
        rintro e w3 ⟨rfl, hy3, hb3, hk3⟩
        have HX3 := Aside0.mk (HX2.out.beside HY2.out HNE.out.1 HNE.out.2 hk3)
        have HY3 := Aside0.mk hy3
        have HB3 := Aside0.mk hb3
        clear hy3 hb3 hk3 q0 q1 q2
        go_wp2_with fail
        go_roundw
        case rel => exact ⟨j + 1, by omega, by omega, by go_num, _, _, ⟨HF.out.move x.a, HX3.out, HY3.out, Nat.le_succ_of_le (Nat.le_trans (moveS_length P0 X x.a) HXL.out), Nat.le_succ_of_le (Nat.le_trans (moveS_length P0 Y x.a) HYL.out), HB3.out.1, HB3.out.2⟩⟩
        case measure => simp [intOf]; omega
      · go_wp2_with fail
        rw [HW1.out, HOB.out]
        clear HW1 HOB c0 c1 c2
        refine (ChargeI_fn w.heap.size w W1 sx mx P0 X x.key x.a HX.out HB.out.2 HB.out.1 hsz HLX.out).mono ?_
        rintro e w2 ⟨rfl, hx2, hb2, hk2⟩
        have HX2 := Aside0.mk hx2
        have HY2 := Aside0.mk (HY.out.beside HX.out (fun e => HNE.out.1 e.symm) (fun e => HNE.out.2 e.symm) hk2)
        have HO2 := Aside0.mk ((hk2.block ob (Array.getElem?_eq_some_iff.1 HO.out).1 (fun e => by rcases e with e | e; exact HOX.out.1 e; exact HOX.out.2.1 e)).trans HO.out)
        have HB2 := Aside0.mk hb2
        have HXL2 := Aside0.mk (Nat.le_trans (chargeS_length P0 X x.key x.a) (Nat.succ_le_succ HXL.out))
        clear hx2 hb2 hk2
        have q0 : w2.cell? ⟨ob, 0, none⟩ = some (.int .i64 x.d) := by rw [cell_of_row _ _ 0 _ _ _ HO2.out]; rfl
        have q1 : w2.cell? ⟨ob, 1, none⟩ = some (.int .i64 x.a) := by rw [cell_of_row _ _ 1 _ _ _ HO2.out]; rfl
        have q2 : w2.cell? ⟨ob, 2, none⟩ = some (.string x.key) := by rw [cell_of_row _ _ 2 _ _ _ HO2.out]; rfl
        by_cases hkey : x.key = key
        · have hks : (x.key.toList == key.toList) = true := by rw [hkey]; simp
          have HKEY := Aside0.mk hkey
          have HF2 := Aside0.mk (show Apart P0 key (chargeS P0 X x.key x.a) (chargeS P0 Y x.key x.a) from by rw [hkey]; exact HF.out.own x.a)
          clear hkey
          go_wp2_with fail
          refine (ChargeI_fn w.heap.size w w2 sy my P0 Y x.key x.a HY2.out HB2.out.2 HB2.out.1 hsz HLY.out).mono ?_
          rintro e w3 ⟨rfl, hy3, hb3, hk3⟩
          have HXA := Aside0.mk (HX2.out.beside HY2.out HNE.out.1 HNE.out.2 hk3)
          have HYA := Aside0.mk hy3
          have HBA := Aside0.mk hb3
          have HOA := Aside0.mk ((hk3.block ob (Array.getElem?_eq_some_iff.1 HO2.out).1 (fun e => by rcases e with e | e; exact HOX.out.2.2.1 e; exact HOX.out.2.2.2 e)).trans HO2.out)
          have HYL2 := Aside0.mk (Nat.le_trans (chargeS_length P0 Y x.key x.a) (Nat.succ_le_succ HYL.out))
          have HLX2 := HXL2
          have HLY2 := HYL2
          have HFA := HF2
          clear hy3 hb3 hk3 q0 q1 q2 HX2 HY2 HB2 HO2 HX HY HB HO HXL HYL HF HF2 HLX HLY
          have HLX := HLX2
          have HLY := HLY2
          clear HLX2 HLY2 HXL2 HYL2
          generalize chargeS P0 X x.key x.a = X2 at HXA HFA HLX
          generalize chargeS P0 Y x.key x.a = Y2 at HYA HFA HLY
          have q0 : w3.cell? ⟨ob, 0, none⟩ = some (.int .i64 x.d) := by rw [cell_of_row _ _ 0 _ _ _ HOA.out]; rfl
          have q1 : w3.cell? ⟨ob, 1, none⟩ = some (.int .i64 x.a) := by rw [cell_of_row _ _ 1 _ _ _ HOA.out]; rfl
          have q2 : w3.cell? ⟨ob, 2, none⟩ = some (.string x.key) := by rw [cell_of_row _ _ 2 _ _ _ HOA.out]; rfl
          go_wp2_with fail
          refine (MayI_fn w.heap.size w w3 sx mx P0 X2 key x.a HXA.out HBA.out.2 HBA.out.1 hk).mono ?_
          rintro e w7 ⟨rfl, hb7, hx7, hbn7⟩
          have HX7 := Aside0.mk hx7
          have HY7 := Aside0.mk (HYA.out.below hb7)
          have HO7 := Aside0.mk ((hb7.block _ (Array.getElem?_eq_some_iff.1 HOA.out).1).trans HOA.out)
          have HB7 := Aside0.mk hbn7
          clear hb7 hx7 hbn7 q0 q1 q2 HXA HYA HOA HBA
          rw [HFA.out.may]
          generalize hmr : mayR P0 _ _ key x.a = mr
          have HMR := Aside0.mk hmr
          clear hmr
          go_wp2_with fail
          refine (Owes_fn _ sx mx P0 _ _ key HX7.out.led hk).mono ?_
          rintro e w8 ⟨rfl, hw⟩
          rw [hw, ← HFA.out.same]
          clear hw w8
          generalize how : (lookR _ key).isSome = ow
          have HOW := Aside0.mk how
          clear how
          have q0 : w7.cell? ⟨ob, 0, none⟩ = some (.int .i64 x.d) := by rw [cell_of_row _ _ 0 _ _ _ HO7.out]; rfl
          have q1 : w7.cell? ⟨ob, 1, none⟩ = some (.int .i64 x.a) := by rw [cell_of_row _ _ 1 _ _ _ HO7.out]; rfl
          have q2 : w7.cell? ⟨ob, 2, none⟩ = some (.string x.key) := by rw [cell_of_row _ _ 2 _ _ _ HO7.out]; rfl
          go_wp2_with fail
          refine (MayI_fn w.heap.size w _ sy my P0 _ key x.a HY7.out HB7.out.2 HB7.out.1 hk).mono ?_
          rintro e w9 ⟨rfl, hb9, hy9, hbn9⟩
          rw [HMR.out]
          have HX9 := Aside0.mk (HX7.out.below hb9)
          have HY9 := Aside0.mk hy9
          have HB9 := Aside0.mk hbn9
          clear hb9 hy9 hbn9 q0 q1 q2 HX7 HY7 HO7 HB7
          go_wp2_with fail
          refine (Owes_fn _ sy my P0 _ _ key HY9.out.led hk).mono ?_
          rintro e w10 ⟨rfl, hw⟩
          rw [hw, HOW.out]
          clear hw w10
          go_wp2_with fail
          go_roundw
          case rel => exact ⟨j + 1, by omega, by omega, by go_num, _, _, ⟨HFA.out, HX9.out, HY9.out, HLX.out, HLY.out, HB9.out.1, HB9.out.2⟩⟩
          case measure => simp [intOf]; omega
        · have hks : (x.key.toList == key.toList) = false := by rw [str_beq9]; exact decide_eq_false hkey
          have HFA := Aside0.mk (HF.out.other hkey x.a)
          have HXA := HX2
          have HYA := HY2
          have HBA := HB2
          have HOA := HO2
          have HLX2 := HXL2
          have HLY2 := Aside0.mk (Nat.le_succ_of_le HYL.out)
          clear HX2 HY2 HB2 HO2 HX HY HB HO HXL HYL HF HLX HLY hkey
          have HLX := HLX2
          have HLY := HLY2
          clear HLX2 HLY2 HXL2
          generalize chargeS P0 X x.key x.a = X2 at HXA HFA HLX
          go_wp2_with fail
          refine (MayI_fn w.heap.size w w2 sx mx P0 X2 key x.a HXA.out HBA.out.2 HBA.out.1 hk).mono ?_
          rintro e w7 ⟨rfl, hb7, hx7, hbn7⟩
          have HX7 := Aside0.mk hx7
          have HY7 := Aside0.mk (HYA.out.below hb7)
          have HO7 := Aside0.mk ((hb7.block _ (Array.getElem?_eq_some_iff.1 HOA.out).1).trans HOA.out)
          have HB7 := Aside0.mk hbn7
          clear hb7 hx7 hbn7 q0 q1 q2 HXA HYA HOA HBA
          rw [HFA.out.may]
          generalize hmr : mayR P0 _ _ key x.a = mr
          have HMR := Aside0.mk hmr
          clear hmr
          go_wp2_with fail
          refine (Owes_fn _ sx mx P0 _ _ key HX7.out.led hk).mono ?_
          rintro e w8 ⟨rfl, hw⟩
          rw [hw, ← HFA.out.same]
          clear hw w8
          generalize how : (lookR _ key).isSome = ow
          have HOW := Aside0.mk how
          clear how
          have q0 : w7.cell? ⟨ob, 0, none⟩ = some (.int .i64 x.d) := by rw [cell_of_row _ _ 0 _ _ _ HO7.out]; rfl
          have q1 : w7.cell? ⟨ob, 1, none⟩ = some (.int .i64 x.a) := by rw [cell_of_row _ _ 1 _ _ _ HO7.out]; rfl
          have q2 : w7.cell? ⟨ob, 2, none⟩ = some (.string x.key) := by rw [cell_of_row _ _ 2 _ _ _ HO7.out]; rfl
          go_wp2_with fail
          refine (MayI_fn w.heap.size w _ sy my P0 _ key x.a HY7.out HB7.out.2 HB7.out.1 hk).mono ?_
          rintro e w9 ⟨rfl, hb9, hy9, hbn9⟩
          rw [HMR.out]
          have HX9 := Aside0.mk (HX7.out.below hb9)
          have HY9 := Aside0.mk hy9
          have HB9 := Aside0.mk hbn9
          clear hb9 hy9 hbn9 q0 q1 q2 HX7 HY7 HO7 HB7
          go_wp2_with fail
          refine (Owes_fn _ sy my P0 _ _ key HY9.out.led hk).mono ?_
          rintro e w10 ⟨rfl, hw⟩
          rw [hw, HOW.out]
          clear hw w10
          go_wp2_with fail
          go_roundw
          case rel => exact ⟨j + 1, by omega, by omega, by go_num, _, _, ⟨HFA.out, HX9.out, HY9.out, HLX.out, HLY.out, HB9.out.1, HB9.out.2⟩⟩
          case measure => simp [intOf]; omega
    · have hend : ¬ ((j : Int) < (l.length : Int)) ∨ (j : Int) < (l.length : Int) ∧ ¬ ((j : Int) < 200) := by omega
      have hyl : Y.rows.length ≤ 100000 := by have := BS.out.2.2.2.2.1; omega
      clear hlt hj hj3 hc
      rcases hend with hd1 | ⟨hd1, hd2⟩
      · go_wp2_with fail
        refine (Keys_fn _ sy my P0 Y.tick Y.rows BS.out.2.2.1.led BS.out.2.2.1.ok.sorted hyl).mono ?_
        rintro e w7 ⟨vk, rfl, hRk, hb⟩
        have HB7 := Aside0.mk (BS.out.2.2.2.2.2.1.trans (hb.mono BS.out.2.2.2.2.2.2))
        rcases BS.out.1.keys with ek | ek
        · rw [ek] at hRk
          obtain ⟨A8, c8, e8⟩ := Kd.R_slice hRk
          subst e8
          clear hRk hb BS ek
          go_wp2_with fail
          go_ret
          exact ⟨rfl, HB7.out⟩
        · rw [ek] at hRk
          obtain ⟨A8, c8, e8, hc8, hC8⟩ := Kd.R_reads hRk
          subst e8
          obtain ⟨ad8, eA8, d0⟩ := Kd.at_string hC8 0 (by decide) (by simp)
          subst eA8
          have r0 : rdOf ByteArray.empty [key] 0 = key := rfl
          rw [r0] at d0
          replace d0 : w7.cell? (ad8.add 0) = some (.string key) := d0
          have e0 : ad8.add 0 = ad8 := addr_zero ad8
          have d2 : w7.cell? ad8 = some (.string key) := by rw [e0] at d0; exact d0
          rw [show ([key] : List ByteArray).length = 1 from rfl]
          clear hRk hb BS ek hC8 hc8 r0 e0
          go_wp2_with fail
          go_ret
          exact ⟨rfl, HB7.out⟩
      · go_wp2_with fail
        refine (Keys_fn _ sy my P0 Y.tick Y.rows BS.out.2.2.1.led BS.out.2.2.1.ok.sorted hyl).mono ?_
        rintro e w7 ⟨vk, rfl, hRk, hb⟩
        have HB7 := Aside0.mk (BS.out.2.2.2.2.2.1.trans (hb.mono BS.out.2.2.2.2.2.2))
        rcases BS.out.1.keys with ek | ek
        · rw [ek] at hRk
          obtain ⟨A8, c8, e8⟩ := Kd.R_slice hRk
          subst e8
          clear hRk hb BS ek
          go_wp2_with fail
          go_ret
          exact ⟨rfl, HB7.out⟩
        · rw [ek] at hRk
          obtain ⟨A8, c8, e8, hc8, hC8⟩ := Kd.R_reads hRk
          subst e8
          obtain ⟨ad8, eA8, d0⟩ := Kd.at_string hC8 0 (by decide) (by simp)
          subst eA8
          have r0 : rdOf ByteArray.empty [key] 0 = key := rfl
          rw [r0] at d0
          replace d0 : w7.cell? (ad8.add 0) = some (.string key) := d0
          have e0 : ad8.add 0 = ad8 := addr_zero ad8
          have d2 : w7.cell? ad8 = some (.string key) := by rw [e0] at d0; exact d0
          rw [show ([key] : List ByteArray).length = 1 from rfl]
          clear hRk hb BS ek hC8 hc8 r0 e0
          go_wp2_with fail
          go_ret
          exact ⟨rfl, HB7.out⟩
end Go.Proofs.Ytnodnpenlplleaa.Own
