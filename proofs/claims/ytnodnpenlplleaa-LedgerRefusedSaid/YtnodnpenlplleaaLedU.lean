/- Layer 9: LedgerRefused: the walk. -/
import Derived.Test.YtnodnpenlplleaaBr
import Derived.Test.YtnodnpenlplleaaRef
namespace Go.Proofs.Ytnodnpenlplleaa.Own
open Go.RowKit Go.Proofs.YtnodnpenlplleaaW.PrintWords Go.Proofs.YtnodnpenlplleaaW.PrintLast Go.Proofs.YtnodnpenlplleaaW.PrintMore
set_option linter.unusedVariables false
set_option linter.unusedSimpArgs false

set_option maxRecDepth 100000 in
set_option maxHeartbeats 4000000 in
theorem LedgerRefused_fn (w : World) (p : Pol) (A : Option Addr) (cp : Nat) (l : List Po) (key : ByteArray) (n : Int) (hr : Kd.C kPo w A l.length l) (hc : l.length ≤ maxLen) (hs : ∀ r ∈ l, r.key.size ≤ maxLen) (hk : key.size ≤ maxLen) :
    Calls Try.prog 3 #[p.val, .slice A l.length cp, .string key, .int .i64 n] w fun e w' => e = .returned (.bool true) ∧ Below w.heap.size w w' := by
  have HNEW := Aside0.mk (fun w' => New_fn w' p)
  have HG := Aside0.mk (heap_alloc_new w (.cells p.cells 23 (0, 0)))
  have HB := Aside0.mk (show Below w.heap.size w (w.alloc (.cells p.cells 23 (0, 0))) from (Below.refl _ w).alloc (Nat.le_refl _) _)
  have HR := Aside0.mk hr
  have HSS := Aside0.mk hs
  clear hr hs
  obtain ⟨P0, hP0⟩ : ∃ P0, p = P0 := ⟨_, rfl⟩
  obtain ⟨er, her⟩ : ∃ er, P0.E = er := ⟨_, rfl⟩
  have HER := Aside0.mk her
  have HNP := Aside0.mk (show ∀ w', Calls Try.prog 14 #[.agg p.cells] w' (NewPost w' P0 er) from fun w' => by
    have h := HNEW.out w'
    rw [hP0, her] at h
    rw [hP0]
    exact h)
  clear her hP0 HNEW
  obtain ⟨kind, cap, num, den, width, count, keys, slots, every, seg⟩ := p
  simp only [Pol.val, Pol.cells] at HNP HG HB ⊢
  go_enter Try.func3, Try.ntmps3
  go_wp2_with fail
  refine (awake9_fn _).mono ?_
  rintro e w1 ⟨rfl, hb1⟩
  have HG1 := Aside0.mk ((hb1.block _ (by simp)).trans HG.out)
  have HB1 := Aside0.mk (HB.out.trans (hb1.mono (by simp)))
  clear hb1 HG HB
  go_wp2_with (first | ((with_reducible refine gload 23 rfl ?_); refine wpList_load_blk rfl 23 _ rfl w.heap.size _ 23 _ rfl HG1.out _ Try.underlying23 rfl infoPol ?_) | fail)
  refine (HNP.out _).mono ?_
  intro e w4 hpost
  rcases hpost with ⟨h0, sx, mx, rfl, h2, h3, hl, hb⟩ | ⟨h0, rfl, hb⟩
  case inr =>
    have HB4 := Aside0.mk (HB1.out.trans (hb.mono HB1.out.size))
    clear hb HER HSS HR HG1 HB1 HNP
    go_wp2_with fail
    go_ret
    exact ⟨rfl, HB4.out⟩
  subst h0
  have hs3 := HB1.out.size
  have HOK := Aside0.mk (show P0.ok from HER.out)
  have HLX4 := Aside0.mk (show LedI w.heap.size w4 sx mx P0 ⟨0, []⟩ from ⟨hl, new_ok HOK.out, by omega, by omega⟩)
  have HB4 := Aside0.mk (HB1.out.trans (hb.mono hs3))
  clear hb hl h2 h3 hs3 HB1 HG1 HER HNP
  go_wp2_with fail
  refine (play_fn w w4 sx mx P0 ⟨0, []⟩ A cp l HLX4.out HB4.out.size HB4.out (by simp) HR.out HSS.out).mono ?_
  rintro e w5 ⟨rfl, hl5, hb5, _⟩
  have HX5 := Aside0.mk hl5
  have HB5 := Aside0.mk hb5
  have ht := (show (l.take 200).length ≤ 200 from by rw [List.length_take]; omega)
  have HSM := Aside0.mk (show smallR 200 (playS P0 ⟨0, []⟩ (l.take 200)).rows from by
    have h := small_playS (p := P0) (l.take 200) (s := ⟨0, []⟩) (j := 0) (new_ok HOK.out) (fun r hr => by simp at hr)
    exact fun r hr => smallD_mono (by omega) (h r hr))
  have HLEN := Aside0.mk (show (playS P0 ⟨0, []⟩ (l.take 200)).rows.length ≤ 200 from by
    have h := playS_length P0 (l.take 200) ⟨0, []⟩
    simp only [List.length_nil] at h
    omega)
  clear hl5 hb5 ht HLX4 HB4 HR HSS hc
  generalize playS P0 ⟨0, []⟩ (l.take 200) = S at HX5 HSM HLEN
  go_wp2_with fail
  refine (BytesI_fn w.heap.size w w5 sx mx P0 S HX5.out HB5.out.2 HB5.out.1 (Nat.le_trans HLEN.out (by decide))).mono ?_
  rintro e w6 ⟨A6, c6, rfl, hR6, hb6, hx6, hB6⟩
  have HR6 := Aside0.mk hR6
  have HX6 := Aside0.mk hx6
  have HB6 := Aside0.mk hB6
  clear hR6 hb6 hx6 hB6 HX5 HB5
  generalize hbs : bytesR S.rows = bs at HR6
  have HBS := Aside0.mk hbs
  clear hbs
  go_wp2_with fail
  refine (Now_fn _ sx mx P0 S.tick S.rows HX6.out.led).mono ?_
  rintro e w7 ⟨rfl, hw⟩
  rw [hw]
  clear hw w7
  go_wp2_with fail
  refine (MoveI_fn w.heap.size w w6 sx mx P0 S n HX6.out HB6.out.2 HB6.out.1 (Nat.le_trans HLEN.out (by decide))).mono ?_
  rintro e w8 ⟨rfl, hx8, hB8, hk8⟩
  have HX8 := Aside0.mk hx8
  have HB8 := Aside0.mk hB8
  have HR8 := Aside0.mk (HR6.out.keeps HX6.out hk8)
  have HOKS := Aside0.mk HX6.out.ok
  clear hx8 hB8 hk8 HR6 HX6 HB6
  by_cases hm : moveE S.tick n = 0
  · rw [hm]
    have HSM8 := Aside0.mk (small_moveS HOKS.out n HSM.out)
    have HLEN8 := Aside0.mk (Nat.le_trans (moveS_length P0 S n) HLEN.out)
    clear hm HSM HLEN HR8 HBS HOKS
    generalize moveS P0 S n = S2 at HX8 HSM8 HLEN8
    have HX := HX8; have HB := HB8; have HSM := HSM8; have HLEN := HLEN8
    clear HX8 HB8 HSM8 HLEN8
    go_wp2_with fail
    refine (BytesI_fn w.heap.size w _ sx mx P0 S2 HX.out HB.out.2 HB.out.1 (Nat.le_trans HLEN.out (by decide))).mono ?_
    rintro e w9 ⟨A9, c9, rfl, hR9, hb9, hx9, hB9⟩
    have HR9 := Aside0.mk hR9
    have HX9 := Aside0.mk hx9
    have HB9 := Aside0.mk hB9
    clear hR9 hb9 hx9 hB9 HX HB
    have HCT := Aside0.mk (charge_turns HX9.out.ok key n (show 200 ≤ 100000 from by decide) HSM.out)
    go_wp2_with fail
    refine (ChargeI_fn w.heap.size w w9 sx mx P0 S2 key n HX9.out HB9.out.2 HB9.out.1 hk (Nat.le_trans HLEN.out (by decide))).mono ?_
    rintro e w10 ⟨rfl, hx10, hB10, hk10⟩
    have HX10 := Aside0.mk hx10
    have HB10 := Aside0.mk hB10
    have HR10 := Aside0.mk (HR9.out.keeps HX9.out hk10)
    have HLEN3 := Aside0.mk (show (chargeS P0 S2 key n).rows.length ≤ 100000 from by have := chargeS_length P0 S2 key n; have := HLEN.out; omega)
    clear hx10 hB10 hk10 HR9 HX9 HB9 HLEN HSM
    generalize chargeS P0 S2 key n = S3 at HX10 HCT HLEN3
    generalize bytesR S2.rows = bs2 at HR10 HCT
    generalize chargeE key n = ce at HCT ⊢
    go_wp2_with fail
    refine (BytesI_fn w.heap.size w _ sx mx P0 S3 HX10.out HB10.out.2 HB10.out.1 HLEN3.out).mono ?_
    rintro e w11 ⟨A11, c11, rfl, hR11, hb11, hx11, hB11⟩
    have HR11 := Aside0.mk hR11
    have HR11b := Aside0.mk (HR10.out.below hb11)
    have HB11 := Aside0.mk hB11
    clear hR11 hb11 hx11 hB11 HX10 HB10 HR10 HLEN3
    generalize bytesR S3.rows = bs3 at HR11 HCT
    go_wp2_with fail
    refine (SameI_fn _ A11 A9 c11 c9 bs3 bs2 HR11.out HR11b.out).mono ?_
    rintro e w12 ⟨rfl, hb12⟩
    have HB12 := Aside0.mk (HB11.out.1.trans (hb12.mono HB11.out.2))
    rw [HCT.out]
    clear hb12 HB11 HR11 HR11b HCT
    by_cases hce : ce = 0
    · subst hce
      go_wp2_with fail
      go_ret
      exact ⟨rfl, HB12.out⟩
    · have hce2 : (ce == 0) = false := by simpa using hce
      go_wp2_with fail
      go_ret
      exact ⟨rfl, HB12.out⟩
  · have hx8 := HX8.out
    rw [moveS_not hm] at hx8
    have HX9 := Aside0.mk hx8
    have HNR := Aside0.mk (show ¬ (S.tick ≤ n ∧ n ≤ 1099511627776) from fun h => hm (moveE_ok.2 h))
    clear hx8 HX8 HOKS
    generalize moveE S.tick n = me at hm ⊢
    go_wp2_with fail
    refine (BytesI_fn w.heap.size w _ sx mx P0 S HX9.out HB8.out.2 HB8.out.1 (Nat.le_trans HLEN.out (by decide))).mono ?_
    rintro e w9 ⟨A9, c9, rfl, hR9, hb9, hx9, hB9⟩
    rw [HBS.out]
    rw [HBS.out] at hR9
    have HR9 := Aside0.mk hR9
    have HR9b := Aside0.mk (HR8.out.below hb9)
    have HX10 := Aside0.mk hx9
    have HB10 := Aside0.mk hB9
    clear hR9 hb9 hx9 hB9 HX9 HB8 HR8
    go_wp2_with fail
    refine (SameI_fn _ A9 A6 c9 c6 bs bs HR9.out HR9b.out).mono ?_
    rintro e w11 ⟨rfl, hb11⟩
    rw [decide_eq_true (show bs = bs from rfl)]
    have HX11 := Aside0.mk (HX10.out.below hb11)
    have HB11 := Aside0.mk (And.intro (HB10.out.1.trans (hb11.mono HB10.out.2)) (Nat.le_trans HB10.out.2 hb11.size))
    clear hb11 HX10 HB10 HR9 HR9b HBS
    go_wp2_with fail
    refine (Now_fn _ sx mx P0 S.tick S.rows HX11.out.led).mono ?_
    rintro e w12 ⟨rfl, hw⟩
    rw [hw]
    clear hw w12
    have HX := HX11; have HB := HB11
    clear HX11 HB11
    obtain ⟨tk, rw0⟩ := S
    simp only at HNR
    obtain ⟨S2, hS2⟩ : ∃ S2 : LSt, (⟨tk, rw0⟩ : LSt) = S2 := ⟨_, rfl⟩
    rw [hS2] at HX HLEN HSM
    by_cases h1 : tk ≤ n
    · have h2 : ¬ (n ≤ 1099511627776) := fun h => HNR.out ⟨h1, h⟩
      clear HNR
      go_wp2_with fail
      refine (BytesI_fn w.heap.size w _ sx mx P0 S2 HX.out HB.out.2 HB.out.1 (Nat.le_trans HLEN.out (by decide))).mono ?_
      rintro e w9 ⟨A9, c9, rfl, hR9, hb9, hx9, hB9⟩
      have HR9 := Aside0.mk hR9
      have HX9 := Aside0.mk hx9
      have HB9 := Aside0.mk hB9
      clear hR9 hb9 hx9 hB9 HX HB
      have HCT := Aside0.mk (charge_turns HX9.out.ok key n (show 200 ≤ 100000 from by decide) HSM.out)
      go_wp2_with fail
      refine (ChargeI_fn w.heap.size w w9 sx mx P0 S2 key n HX9.out HB9.out.2 HB9.out.1 hk (Nat.le_trans HLEN.out (by decide))).mono ?_
      rintro e w10 ⟨rfl, hx10, hB10, hk10⟩
      have HX10 := Aside0.mk hx10
      have HB10 := Aside0.mk hB10
      have HR10 := Aside0.mk (HR9.out.keeps HX9.out hk10)
      have HLEN3 := Aside0.mk (show (chargeS P0 S2 key n).rows.length ≤ 100000 from by have := chargeS_length P0 S2 key n; have := HLEN.out; omega)
      clear hx10 hB10 hk10 HR9 HX9 HB9 HLEN HSM
      generalize chargeS P0 S2 key n = S3 at HX10 HCT HLEN3
      generalize bytesR S2.rows = bs2 at HR10 HCT
      generalize chargeE key n = ce at HCT ⊢
      go_wp2_with fail
      refine (BytesI_fn w.heap.size w _ sx mx P0 S3 HX10.out HB10.out.2 HB10.out.1 HLEN3.out).mono ?_
      rintro e w11 ⟨A11, c11, rfl, hR11, hb11, hx11, hB11⟩
      have HR11 := Aside0.mk hR11
      have HR11b := Aside0.mk (HR10.out.below hb11)
      have HB11 := Aside0.mk hB11
      clear hR11 hb11 hx11 hB11 HX10 HB10 HR10 HLEN3
      generalize bytesR S3.rows = bs3 at HR11 HCT
      go_wp2_with fail
      refine (SameI_fn _ A11 A9 c11 c9 bs3 bs2 HR11.out HR11b.out).mono ?_
      rintro e w12 ⟨rfl, hb12⟩
      have HB12 := Aside0.mk (HB11.out.1.trans (hb12.mono HB11.out.2))
      rw [HCT.out]
      clear hb12 HB11 HR11 HR11b HCT
      by_cases hce : ce = 0
      · subst hce
        go_wp2_with fail
        go_ret
        exact ⟨rfl, HB12.out⟩
      · have hce2 : (ce == 0) = false := by simpa using hce
        go_wp2_with fail
        go_ret
        exact ⟨rfl, HB12.out⟩
    · clear HNR
      go_wp2_with fail
      refine (BytesI_fn w.heap.size w _ sx mx P0 S2 HX.out HB.out.2 HB.out.1 (Nat.le_trans HLEN.out (by decide))).mono ?_
      rintro e w9 ⟨A9, c9, rfl, hR9, hb9, hx9, hB9⟩
      have HR9 := Aside0.mk hR9
      have HX9 := Aside0.mk hx9
      have HB9 := Aside0.mk hB9
      clear hR9 hb9 hx9 hB9 HX HB
      have HCT := Aside0.mk (charge_turns HX9.out.ok key n (show 200 ≤ 100000 from by decide) HSM.out)
      go_wp2_with fail
      refine (ChargeI_fn w.heap.size w w9 sx mx P0 S2 key n HX9.out HB9.out.2 HB9.out.1 hk (Nat.le_trans HLEN.out (by decide))).mono ?_
      rintro e w10 ⟨rfl, hx10, hB10, hk10⟩
      have HX10 := Aside0.mk hx10
      have HB10 := Aside0.mk hB10
      have HR10 := Aside0.mk (HR9.out.keeps HX9.out hk10)
      have HLEN3 := Aside0.mk (show (chargeS P0 S2 key n).rows.length ≤ 100000 from by have := chargeS_length P0 S2 key n; have := HLEN.out; omega)
      clear hx10 hB10 hk10 HR9 HX9 HB9 HLEN HSM
      generalize chargeS P0 S2 key n = S3 at HX10 HCT HLEN3
      generalize bytesR S2.rows = bs2 at HR10 HCT
      generalize chargeE key n = ce at HCT ⊢
      go_wp2_with fail
      refine (BytesI_fn w.heap.size w _ sx mx P0 S3 HX10.out HB10.out.2 HB10.out.1 HLEN3.out).mono ?_
      rintro e w11 ⟨A11, c11, rfl, hR11, hb11, hx11, hB11⟩
      have HR11 := Aside0.mk hR11
      have HR11b := Aside0.mk (HR10.out.below hb11)
      have HB11 := Aside0.mk hB11
      clear hR11 hb11 hx11 hB11 HX10 HB10 HR10 HLEN3
      generalize bytesR S3.rows = bs3 at HR11 HCT
      go_wp2_with fail
      refine (SameI_fn _ A11 A9 c11 c9 bs3 bs2 HR11.out HR11b.out).mono ?_
      rintro e w12 ⟨rfl, hb12⟩
      have HB12 := Aside0.mk (HB11.out.1.trans (hb12.mono HB11.out.2))
      rw [HCT.out]
      clear hb12 HB11 HR11 HR11b HCT
      by_cases hce : ce = 0
      · subst hce
        go_wp2_with fail
        go_ret
        exact ⟨rfl, HB12.out⟩
      · have hce2 : (ce == 0) = false := by simpa using hce
        go_wp2_with fail
        go_ret
        exact ⟨rfl, HB12.out⟩
end Go.Proofs.Ytnodnpenlplleaa.Own
