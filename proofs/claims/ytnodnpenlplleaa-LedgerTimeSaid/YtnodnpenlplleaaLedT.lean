/- Layer 9: LedgerTime: the walk. -/
import Derived.Test.YtnodnpenlplleaaBr
import Derived.Test.YtnodnpenlplleaaClo
import Derived.Test.YtnodnpenlplleaaPlay
import Derived.Test.YtnodnpenlplleaaMv
namespace Go.Proofs.Ytnodnpenlplleaa.Own
open Go.RowKit Go.Proofs.YtnodnpenlplleaaW.PrintWords Go.Proofs.YtnodnpenlplleaaW.PrintLast Go.Proofs.YtnodnpenlplleaaW.PrintMore
set_option linter.unusedVariables false
set_option linter.unusedSimpArgs false

/-- Time in two parts is time in one. -/
theorem moveS_two {p : Pol} {s : LSt} (h : OkR p s.tick s.rows) {a b : Int} (h0 : s.tick ≤ a) (h1 : a ≤ b) (h2 : b ≤ 1099511627776) : moveS p (moveS p s a) b = moveS p s b := by
  have e1 : moveE s.tick a = 0 := moveE_ok.2 ⟨h0, by omega⟩
  have e2 : moveE s.tick b = 0 := moveE_ok.2 ⟨by omega, h2⟩
  have e3 : moveE a b = 0 := moveE_ok.2 ⟨h1, h2⟩
  have t1 : moveS p s a = ⟨a, moveR p s.tick a s.rows⟩ := by unfold moveS tickM rowsM; rw [if_pos e1, if_pos e1]
  rw [t1]
  unfold moveS tickM rowsM
  simp only
  rw [if_pos e3, if_pos e3, if_pos e2, if_pos e2, move_move h.pol h.tick0 h0 h1 (by omega) (fun r hr => (h.debts r hr).1)]
theorem bits_and (a : Int) : ∃ x, bits .and .i64 a 1073741823 = x ∧ 0 ≤ x := by
  refine ⟨_, rfl, ?_⟩
  have h : (BitVec.ofInt 64 a &&& BitVec.ofInt 64 1073741823).toNat ≤ 1073741823 := by
    rw [BitVec.toNat_and]
    exact Nat.and_le_right
  show 0 ≤ IntKind.wrap .i64 ((BitVec.ofInt 64 a &&& BitVec.ofInt 64 1073741823).toNat : Int)
  generalize (BitVec.ofInt 64 a &&& BitVec.ofInt 64 1073741823).toNat = n at h
  have e : IntKind.wrap .i64 (n : Int) = (n : Int) := (Go.IntWalk.i64_left _).trans (Go.IntWalk.wrap64_in _ ⟨by omega, by omega⟩)
  omega
theorem tmod_in {x f : Int} (h : 0 ≤ x) (hf : f ≤ 1099511627776) : ∃ r, x.tmod (1099511627776 - f + 1) = r ∧ 0 ≤ r ∧ f + r ≤ 1099511627776 := by
  refine ⟨_, rfl, Int.tmod_nonneg _ h, ?_⟩
  have := Int.tmod_lt_of_pos x (show 0 < 1099511627776 - f + 1 from by omega)
  omega
theorem CloneI_fn (n : Nat) (w0 w : World) (sb mb : Nat) (p : Pol) (s : LSt) (h : LedI n w sb mb p s) (hn : n ≤ w.heap.size) (hb : Below n w0 w) :
    Calls Try.prog 21 #[.pointer (some ⟨sb, 0, none⟩)] w fun e w' => ∃ s2 m2, e = .returned (.pointer (some ⟨s2, 0, none⟩)) ∧ sb ≠ s2 ∧ mb ≠ m2 ∧ LedI n w' sb mb p s ∧ LedI n w' s2 m2 p s ∧ (Below n w0 w' ∧ n ≤ w'.heap.size) :=
  (LClone_fn w sb mb p s.tick s.rows h.led).mono fun e w' hh => by
    obtain ⟨s2, m2, e1, g1, g2, hl, hB⟩ := hh
    have := h.led.lt_sb
    have := h.led.lt_mb
    exact ⟨s2, m2, e1, by omega, by omega, h.below hB, ⟨hl, h.ok, by omega, by omega⟩, hb.trans (hB.mono hn), Nat.le_trans hn hB.size⟩

set_option maxRecDepth 100000 in
set_option maxHeartbeats 4000000 in
theorem LedgerTime_fn (w : World) (p : Pol) (A : Option Addr) (cp : Nat) (l : List Po) (ka kb : Int) (hr : Kd.C kPo w A l.length l) (hc : l.length ≤ maxLen) (hs : ∀ r ∈ l, r.key.size ≤ maxLen) :
    Calls Try.prog 4 #[p.val, .slice A l.length cp, .int .i64 ka, .int .i64 kb] w fun e w' => e = .returned (.bool true) ∧ Below w.heap.size w w' := by
  have HNEW := Aside0.mk (fun w' => New_fn w' p)
  have HG := Aside0.mk (heap_alloc_new w (.cells p.cells 23 (0, 0)))
  have HB := Aside0.mk (show Below w.heap.size w (w.alloc (.cells p.cells 23 (0, 0))) from (Below.refl _ w).alloc (Nat.le_refl _) _)
  have HR := Aside0.mk hr
  have HSS := Aside0.mk hs
  clear hr hs
  obtain ⟨P0, hP0⟩ : ∃ P0, p = P0 := ⟨_, rfl⟩
  obtain ⟨er, her⟩ : ∃ er, P0.E = er := ⟨_, rfl⟩
  have HER := Aside0.mk her
  have HNP := Aside0.mk (show ∀ w', Calls Try.prog 14 #[.agg p.cells] w' (NewPost w' P0 er) from fun w' => by
    have h := HNEW.out w'
    rw [hP0, her] at h
    rw [hP0]
    exact h)
  clear her hP0 HNEW
  obtain ⟨kind, cap, num, den, width, count, keys, slots, every, seg⟩ := p
  simp only [Pol.val, Pol.cells] at HNP HG HB ⊢
  go_enter Try.func4, Try.ntmps4
  go_wp2_with fail
  refine (awake9_fn _).mono ?_
  rintro e w1 ⟨rfl, hb1⟩
  have HG1 := Aside0.mk ((hb1.block _ (by simp)).trans HG.out)
  have HB1 := Aside0.mk (HB.out.trans (hb1.mono (by simp)))
  clear hb1 HG HB
  go_wp2_with (first | ((with_reducible refine gload 23 rfl ?_); refine wpList_load_blk rfl 23 _ rfl w.heap.size _ 23 _ rfl HG1.out _ Try.underlying23 rfl infoPol ?_) | fail)
  refine (HNP.out _).mono ?_
  intro e w4 hpost
  rcases hpost with ⟨h0, sx, mx, rfl, h2, h3, hl, hb⟩ | ⟨h0, rfl, hb⟩
  case inr =>
    have HB4 := Aside0.mk (HB1.out.trans (hb.mono HB1.out.size))
    clear hb HER HSS HR HG1 HB1 HNP
    go_wp2_with fail
    go_ret
    exact ⟨rfl, HB4.out⟩
  subst h0
  have hs3 := HB1.out.size
  have HOK := Aside0.mk (show P0.ok from HER.out)
  have HLX4 := Aside0.mk (show LedI w.heap.size w4 sx mx P0 ⟨0, []⟩ from ⟨hl, new_ok HOK.out, by omega, by omega⟩)
  have HB4 := Aside0.mk (HB1.out.trans (hb.mono hs3))
  clear hb hl h2 h3 hs3 HB1 HG1 HER HNP
  go_wp2_with fail
  refine (play_fn w w4 sx mx P0 ⟨0, []⟩ A cp l HLX4.out HB4.out.size HB4.out (by simp) HR.out HSS.out).mono ?_
  rintro e w5 ⟨rfl, hl5, hb5, _⟩
  have HX5 := Aside0.mk hl5
  have HB5 := Aside0.mk hb5
  have ht := (show (l.take 200).length ≤ 200 from by rw [List.length_take]; omega)
  have HLEN := Aside0.mk (show (playS P0 ⟨0, []⟩ (l.take 200)).rows.length ≤ 200 from by
    have h := playS_length P0 (l.take 200) ⟨0, []⟩
    simp only [List.length_nil] at h
    omega)
  clear hl5 hb5 ht HLX4 HB4 HR HSS hc
  generalize playS P0 ⟨0, []⟩ (l.take 200) = S at HX5 HLEN
  go_wp2_with fail
  refine (CloneI_fn w.heap.size w w5 sx mx P0 S HX5.out HB5.out.2 HB5.out.1).mono ?_
  rintro e w6 ⟨sy, my, rfl, hne1, hne2, hx6, hy6, hB6⟩
  have HX6 := Aside0.mk hx6
  have HY6 := Aside0.mk hy6
  have HB6 := Aside0.mk hB6
  have HNE := Aside0.mk (And.intro hne1 hne2)
  clear hx6 hy6 hB6 hne1 hne2 HX5 HB5
  go_wp2_with fail
  refine (Now_fn _ sx mx P0 S.tick S.rows HX6.out.led).mono ?_
  rintro e w7 ⟨rfl, hw⟩
  rw [hw]
  clear hw w7
  obtain ⟨f, hf⟩ : ∃ f, f = S.tick := ⟨_, rfl⟩
  have HF := Aside0.mk hf
  have f0 : 0 ≤ f := by rw [hf]; exact HX6.out.ok.tick0
  have f1 : f ≤ 1099511627776 := by rw [hf]; exact HX6.out.ok.tick1
  rw [← hf]
  clear hf
  obtain ⟨xa, ea, xa0⟩ := bits_and ka
  obtain ⟨xb, eb, xb0⟩ := bits_and kb
  obtain ⟨ra, er, r0, r1⟩ := tmod_in xa0 f1
  obtain ⟨o, ho⟩ : ∃ o, f + ra = o := ⟨_, rfl⟩
  have o1 : f ≤ o := by omega
  have o2 : o ≤ 1099511627776 := by omega
  obtain ⟨rb, es, s0, s1⟩ := tmod_in xb0 o2
  obtain ⟨q, hq⟩ : ∃ q, o + rb = q := ⟨_, rfl⟩
  have q1 : o ≤ q := by omega
  have q2 : q ≤ 1099511627776 := by omega
  have HO := Aside0.mk (show S.tick ≤ o ∧ o ≤ q ∧ q ≤ 1099511627776 from by rw [← HF.out]; exact ⟨o1, q1, q2⟩)
  clear xa0 xb0 HF
  go_wp2_with fail
  refine (Keys_fn _ sx mx P0 S.tick S.rows HX6.out.led HX6.out.ok.sorted (Nat.le_trans HLEN.out (by decide))).mono ?_
  rintro e w8 ⟨vk, rfl, hRk, hb8⟩
  obtain ⟨A8, c8, e8⟩ := Kd.R_slice hRk
  subst e8
  have HX8 := Aside0.mk (HX6.out.below hb8)
  have HY8 := Aside0.mk (HY6.out.below hb8)
  have HB8 := Aside0.mk (And.intro (HB6.out.1.trans (hb8.mono HB6.out.2)) (Nat.le_trans HB6.out.2 hb8.size))
  have HMV := Aside0.mk (show (keysR (moveS P0 S q).rows).length ≤ (keysR S.rows).length from by rw [keysR, keysR, List.length_map, List.length_map]; exact moveS_length P0 S q)
  clear hRk hb8 HX6 HY6 HB6
  generalize (keysR S.rows).length = many at HMV
  go_wp2_with fail
  refine (MoveI_fn w.heap.size w w8 sx mx P0 S o HX8.out HB8.out.2 HB8.out.1 (Nat.le_trans HLEN.out (by decide))).mono ?_
  rintro e w9 ⟨rfl, hx9, hB9, hk9⟩
  rw [show moveE S.tick o = 0 from moveE_ok.2 ⟨HO.out.1, Int.le_trans HO.out.2.1 HO.out.2.2⟩]
  have HX9 := Aside0.mk hx9
  have HB9 := Aside0.mk hB9
  have HY9 := Aside0.mk (HY8.out.beside HX8.out (fun e => HNE.out.1 e.symm) (fun e => HNE.out.2 e.symm) hk9)
  have HT9 := Aside0.mk (show (moveS P0 S o).tick = o ∧ (moveS P0 S o).rows.length ≤ 200 from ⟨by unfold moveS tickM; simp only; rw [if_pos (moveE_ok.2 ⟨HO.out.1, Int.le_trans HO.out.2.1 HO.out.2.2⟩)], Nat.le_trans (moveS_length P0 S o) HLEN.out⟩)
  have HTWO := Aside0.mk (moveS_two HX8.out.ok HO.out.1 HO.out.2.1 HO.out.2.2)
  have HE2 := Aside0.mk (show moveE (moveS P0 S o).tick q = 0 from by rw [HT9.out.1]; exact moveE_ok.2 HO.out.2)
  clear hx9 hB9 hk9 HX8 HY8 HB8
  generalize moveS P0 S o = S1 at HX9 HT9 HTWO HE2
  go_wp2_with fail
  refine (MoveI_fn w.heap.size w w9 sx mx P0 S1 q HX9.out HB9.out.2 HB9.out.1 (Nat.le_trans HT9.out.2 (by decide))).mono ?_
  rintro e w10 ⟨rfl, hx10, hB10, hk10⟩
  rw [HE2.out]
  rw [HTWO.out] at hx10
  have HX10 := Aside0.mk hx10
  have HB10 := Aside0.mk hB10
  have HY10 := Aside0.mk (HY9.out.beside HX9.out (fun e => HNE.out.1 e.symm) (fun e => HNE.out.2 e.symm) hk10)
  clear hx10 hB10 hk10 HX9 HY9 HB9 HTWO HT9 HE2
  go_wp2_with fail
  refine (MoveI_fn w.heap.size w w10 sy my P0 S q HY10.out HB10.out.2 HB10.out.1 (Nat.le_trans HLEN.out (by decide))).mono ?_
  rintro e w11 ⟨rfl, hy11, hB11, hk11⟩
  rw [show moveE S.tick q = 0 from moveE_ok.2 ⟨Int.le_trans HO.out.1 HO.out.2.1, HO.out.2.2⟩]
  have HY11 := Aside0.mk hy11
  have HB11 := Aside0.mk hB11
  have HX11 := Aside0.mk (HX10.out.beside HY10.out HNE.out.1 HNE.out.2 hk11)
  have HT11 := Aside0.mk (show (moveS P0 S q).tick = q ∧ (moveS P0 S q).rows.length ≤ 200 from ⟨by unfold moveS tickM; simp only; rw [if_pos (moveE_ok.2 ⟨Int.le_trans HO.out.1 HO.out.2.1, HO.out.2.2⟩)], Nat.le_trans (moveS_length P0 S q) HLEN.out⟩)
  clear hy11 hB11 hk11 HX10 HY10 HB10 HO HLEN
  generalize moveS P0 S q = S2 at HX11 HY11 HT11 HMV
  go_wp2_with fail
  refine (BytesI_fn w.heap.size w w11 sx mx P0 S2 HX11.out HB11.out.2 HB11.out.1 (Nat.le_trans HT11.out.2 (by decide))).mono ?_
  rintro e w12 ⟨A12, c12, rfl, hR12, hb12, hx12, hB12⟩
  have HR12 := Aside0.mk hR12
  have HX12 := Aside0.mk hx12
  have HY12 := Aside0.mk (HY11.out.below hb12)
  have HB12 := Aside0.mk hB12
  clear hR12 hb12 hx12 hB12 HX11 HY11 HB11
  go_wp2_with fail
  refine (BytesI_fn w.heap.size w w12 sy my P0 S2 HY12.out HB12.out.2 HB12.out.1 (Nat.le_trans HT11.out.2 (by decide))).mono ?_
  rintro e w13 ⟨A13, c13, rfl, hR13, hb13, hy13, hB13⟩
  have HR13 := Aside0.mk hR13
  have HR13b := Aside0.mk (HR12.out.below hb13)
  have HX13 := Aside0.mk (HX12.out.below hb13)
  have HB13 := Aside0.mk hB13
  clear hR13 hb13 hy13 hB13 HX12 HY12 HB12 HR12
  generalize bytesR S2.rows = bs at HR13 HR13b
  go_wp2_with fail
  refine (SameI_fn _ A12 A13 c12 c13 bs bs HR13b.out HR13.out).mono ?_
  rintro e w14 ⟨rfl, hb14⟩
  rw [decide_eq_true (show bs = bs from rfl)]
  have HX14 := Aside0.mk (HX13.out.below hb14)
  have HB14 := Aside0.mk (And.intro (HB13.out.1.trans (hb14.mono HB13.out.2)) (Nat.le_trans HB13.out.2 hb14.size))
  clear hb14 HX13 HB13 HR13 HR13b
  go_wp2_with fail
  refine (Keys_fn _ sx mx P0 S2.tick S2.rows HX14.out.led HX14.out.ok.sorted (Nat.le_trans HT11.out.2 (by decide))).mono ?_
  rintro e w15 ⟨vk, rfl, hRk, hb15⟩
  obtain ⟨A15, c15, e15⟩ := Kd.R_slice hRk
  subst e15
  have HX15 := Aside0.mk (HX14.out.below hb15)
  have HB15 := Aside0.mk (HB14.out.1.trans (hb15.mono HB14.out.2))
  have hmv := HMV.out
  clear hRk hb15 HX14 HB14 HMV
  generalize (keysR S2.rows).length = m2 at hmv
  have hmi : (m2 : Int) ≤ (many : Int) := by omega
  clear hmv
  go_wp2_with fail
  refine (Now_fn _ sx mx P0 S2.tick S2.rows HX15.out.led).mono ?_
  rintro e w16 ⟨rfl, hw⟩
  rw [hw, HT11.out.1]
  clear hw w16
  go_wp2_with fail
  go_ret
  exact ⟨rfl, HB15.out⟩
end Go.Proofs.Ytnodnpenlplleaa.Own
