/- Lemmas for a claim of this seat: texts of this session and of the kit's print, without what this claim does not use. -/
import Derived.Test.YtmlpahjmebfgbaaQRefO
import Derived.Test.YtmlpahjmebfgbaaQAwk
import Derived.Test.YtmlpahjmebfgbaaQLent
import Derived.Test.YtmlpahjmebfgbaaQExSame
namespace Go.Proofs.Ytmlpahjmebfgbaa.Own
open Go.RowKit Go.Proofs.YtmlpahjmebfgbaaW.PrintWords Go.Proofs.YtmlpahjmebfgbaaW.PrintLast Go.Proofs.YtmlpahjmebfgbaaW.PrintMore Go.Proofs.Ytmlpahjmebfgbaa.PEx
set_option linter.unusedVariables false
set_option linter.unusedSimpArgs false

theorem sameKeys_l0 (xs : List ByteArray) (hl : xs.length ≤ 9223372036854775806) : ∀ (n j : Nat), xs.length - j < n → j ≤ xs.length → reevelaw16_SameKeys.l0 n xs xs (j : Int) = some true
  | 0, j, h, _ => by omega
  | n + 1, j, h, hj => by
    unfold reevelaw16_SameKeys.l0
    by_cases hlt : j < xs.length
    · rw [if_pos (by omega), if_pos (by omega), if_pos (by omega), if_pos rfl]
      have e : wrap64 ((j : Int) + 1) = ((j + 1 : Nat) : Int) := by rw [wrap64_small (by omega) (by omega)]; omega
      rw [e]
      exact sameKeys_l0 xs hl n (j + 1) (by omega) (by omega)
    · rw [if_neg (by omega)]
theorem sameKeys_self (xs : List ByteArray) (hl : xs.length ≤ 9223372036854775806) {k : Nat} (hk : xs.length < k) : reevelaw16_SameKeys.f k xs xs = some true := by
  unfold reevelaw16_SameKeys.f
  rw [if_pos rfl]
  exact sameKeys_l0 xs hl k 0 (by omega) (Nat.zero_le _)
theorem filter_keys_length (kind cap num den width count keys slots every seg : Int) (l : List S42) (at_ : Int) : (HoldersX kind cap num den width count keys slots every seg l at_).length ≤ 10000 := by
  unfold HoldersX
  split
  · rename_i hz
    split
    · have hg := right_good.1 hz
      have hl := hg.len
      rename_i ht
      have htt : 0 ≤ at_ ∧ at_ ≤ 1099511627776 := of_decide_eq_true ht
      have h1 := foldH_hold (tick := at_) (pol_ok hg.pol).1 (good_okR hg) htt.1
      have h2 := (foldH_facts kind num den width count at_ l l).2.1
      rw [h1] at h2
      omega
    · simp
  · simp

theorem C_left {w : World} {ag : Addr} {l : List S42} {x : S42} (h : Kd.C k42 w (some ag) (l.length + 1) (l ++ [x])) : Kd.C k42 w (some ag) l.length l := by
  obtain ⟨h1, h2, h3⟩ := h
  refine ⟨rfl, by omega, fun h0 => ?_⟩
  obtain ⟨ad, e, h4⟩ := h3 (by omega)
  refine ⟨ad, e, fun j p hj => h4 j p ?_⟩
  rw [List.getElem?_append_left (List.getElem?_eq_some_iff.1 hj).1]
  exact hj

set_option maxRecDepth 100000 in
set_option maxHeartbeats 8000000 in
theorem Owes_fn (a0 a1 a2 a3 a4 a5 a6 a7 a8 a9 : Int) (A : Option Addr) (c : Nat) (l : List S42) (key : ByteArray) (tick cost : Int) (w : World) (hr : Kd.C k42 w A l.length l) (hc : l.length ≤ c) (hA : A = none → c = 0) (hsz : l.length * 40 ≤ 140737488351232) (hk : key.size ≤ maxLen) :
    Calls Try.prog 3 #[.agg #[.int .i64 a0, .int .i64 a1, .int .i64 a2, .int .i64 a3, .int .i64 a4, .int .i64 a5, .int .i64 a6, .int .i64 a7, .int .i64 a8, .int .i64 a9], .slice A l.length c, .string key, .int .i64 tick, .int .i64 cost] w fun e w' =>
      e = .returned (.bool true) ∧ Below w.heap.size w w' := by
  have HR := Aside0.mk hr
  have HA := Aside0.mk hA
  have HSZ := Aside0.mk hsz
  have hll : (l.length : Int) ≤ 4611686018427387904 := by omega
  clear hr hA hsz
  refine calls_of_wp Try.func3 rfl ?_
  simp only [Try.ntmps3, List.size_toArray, List.length_cons, List.length_nil, Nat.reduceAdd, Nat.reduceSub, Array.replicate_succ, Array.replicate_zero, List.push_toArray, List.append_toArray, List.nil_append, List.cons_append]
  go_wp2_with fail
  refine (awake_fn _).mono ?_
  rintro e w1 ⟨rfl, hb1⟩
  have g0 := (hb1.block w.heap.size (by simp)).trans (heap_alloc_new w _)
  have HB1 : Aside0 (Below w.heap.size w w1) := ⟨((Below.refl _ w).alloc (Nat.le_refl _) _).trans (hb1.mono (by simp))⟩
  have hs1 : w.heap.size < w1.heap.size := by have := hb1.size; simp at this; omega
  have HR1 := Aside0.mk (Kd.C_below HR.out HB1.out)
  have HS1 := Aside0.mk hs1
  have HG1 := Aside0.mk g0
  clear hb1 g0 hs1 HR
  rcases (show (200 < l.length ∧ l.length ≤ 10000) ∨ (200 < l.length ∧ ¬ l.length ≤ 10000) ∨ ¬ 200 < l.length from by omega) with ⟨h200, h10⟩ | ⟨h200, h10⟩ | h200
  case inl =>
    have i200 : (200 : Int) < (l.length : Int) := by omega
    have i10 : (l.length : Int) ≤ 10000 := by omega
    go_wp2_with fail
    go_ret
    exact ⟨rfl, HB1.out⟩
  case' inr.inl =>
    have i200 : (200 : Int) < (l.length : Int) := by omega
    have i10 : ¬ (l.length : Int) ≤ 10000 := by omega
    go_wp2_with fail
    clear i200 i10 h200 h10
  case' inr.inr =>
    have i200 : ¬ (200 : Int) < (l.length : Int) := by omega
    go_wp2_with fail
    clear i200 h200
  all_goals
    refine (Lent_fn A c l _ HR1.out HA.out HSZ.out).mono ?_
    rintro e w2 ⟨g, rfl, hg2, hC2, hb2⟩
    have HG2 := Aside0.mk ((hb2.block _ HS1.out).trans HG1.out)
    have HS2 := Aside0.mk (show w.heap.size < w2.heap.size from by have := hb2.size; have := HS1.out; omega)
    have HR2 := Aside0.mk (Kd.C_below HR1.out hb2)
    have HB2 := Aside0.mk (HB1.out.trans (hb2.mono HB1.out.size))
    have HL2 := Aside0.mk hC2
    clear hb2 hC2 hg2
    go_wp2_with (first | ((with_reducible refine gload 23 rfl ?_); refine wpList_load_blk rfl 23 _ rfl w.heap.size _ 23 _ rfl HG2.out _ Try.underlying23 rfl info23 ?_) | fail)
    refine (Owed_fn a0 a1 a2 a3 a4 a5 a6 a7 a8 a9 (some ⟨g, 0, none⟩) (l.length + 1) l key tick _ (C_left HL2.out) (by omega) hk).mono ?_
    rintro e w3 ⟨rfl, hb3⟩
    have HG3 := Aside0.mk ((hb3.block _ HS2.out).trans HG2.out)
    have HS3 := Aside0.mk (show w.heap.size < w3.heap.size from by have := hb3.size; have := HS2.out; omega)
    have HR3 := Aside0.mk (Kd.C_below HR2.out hb3)
    have HL3 := Aside0.mk (Kd.C_below HL2.out hb3)
    have HB3 := Aside0.mk (HB2.out.trans (hb3.mono HB2.out.size))
    obtain ⟨no, hno⟩ : ∃ no, OwedX a0 a1 a2 a3 a4 a5 a6 a7 a8 a9 l key tick = no := ⟨_, rfl⟩
    rw [hno]
    have HNO := Aside0.mk hno
    clear hno hb3
    go_wp2_with (first | ((with_reducible refine gload 23 rfl ?_); refine wpList_load_blk rfl 23 _ rfl w.heap.size _ 23 _ rfl HG3.out _ Try.underlying23 rfl info23 ?_) | fail)
    refine (Holders_fn a0 a1 a2 a3 a4 a5 a6 a7 a8 a9 (some ⟨g, 0, none⟩) (l.length + 1) l tick _ (C_left HL3.out) (by omega)).mono ?_
    rintro e w4 ⟨vh, rfl, hRh, hb4⟩
    have HG4 := Aside0.mk ((hb4.block _ HS3.out).trans HG3.out)
    have HS4 := Aside0.mk (show w.heap.size < w4.heap.size from by have := hb4.size; have := HS3.out; omega)
    have HR4 := Aside0.mk (Kd.C_below HR3.out hb4)
    have HL4 := Aside0.mk (Kd.C_below HL3.out hb4)
    have HB4 := Aside0.mk (HB3.out.trans (hb4.mono HB3.out.size))
    obtain ⟨Hs, hHs⟩ : ∃ Hs, HoldersX a0 a1 a2 a3 a4 a5 a6 a7 a8 a9 l tick = Hs := ⟨_, rfl⟩
    have hHl : Hs.length ≤ 10000 := by rw [← hHs]; exact filter_keys_length _ _ _ _ _ _ _ _ _ _ _ _
    rw [hHs] at hRh
    obtain ⟨Ah, ch, rfl, hch, hCh⟩ := Kd.R_reads hRh
    have HHS := Aside0.mk hHs
    have HK4 := Aside0.mk hCh
    clear hHs hRh hCh hb4
    go_wp2_with (first | ((with_reducible refine gload 23 rfl ?_); refine wpList_load_blk rfl 23 _ rfl w.heap.size _ 23 _ rfl HG4.out _ Try.underlying23 rfl info23 ?_) | fail)
    refine (Due_fn a0 a1 a2 a3 a4 a5 a6 a7 a8 a9 (some ⟨g, 0, none⟩) (l.length + 1) l tick key cost _ (C_left HL4.out) (by omega)).mono ?_
    rintro e w5 ⟨rfl, hb5⟩
    have HG5 := Aside0.mk ((hb5.block _ HS4.out).trans HG4.out)
    have HS5 := Aside0.mk (show w.heap.size < w5.heap.size from by have := hb5.size; have := HS4.out; omega)
    have HR5 := Aside0.mk (Kd.C_below HR4.out hb5)
    have HL5 := Aside0.mk (Kd.C_below HL4.out hb5)
    have HK5 := Aside0.mk (Kd.C_below HK4.out hb5)
    have HB5 := Aside0.mk (HB4.out.trans (hb5.mono HB4.out.size))
    have hdx := refDue_eq a0 a1 a2 a3 a4 a5 a6 a7 a8 a9 l tick key cost (k := 3 * l.length + 4) (Nat.le_refl _)
    obtain ⟨⟨dv, de⟩, hdd⟩ : ∃ d, DueX a0 a1 a2 a3 a4 a5 a6 a7 a8 a9 l tick key cost = d := ⟨_, rfl⟩
    rw [hdd] at hdx
    rw [hdd]
    have HDX := Aside0.mk hdx
    clear hdd hdx hb5
    simp only
    go_wp2_with fail
    refine (Kept_fn _ A c l _ HL5.out HR5.out HSZ.out).mono ?_
    rintro e w6 ⟨rfl, hb6⟩
    have HG6 := Aside0.mk ((hb6.block _ HS5.out).trans HG5.out)
    have HS6 := Aside0.mk (show w.heap.size < w6.heap.size from by have := hb6.size; have := HS5.out; omega)
    have HR6 := Aside0.mk (Kd.C_below HR5.out hb6)
    have HK6 := Aside0.mk (Kd.C_below HK5.out hb6)
    have HB6 := Aside0.mk (HB5.out.trans (hb6.mono HB5.out.size))
    clear hb6
    go_wp2_with (first | ((with_reducible refine gload 23 rfl ?_); refine wpList_load_blk rfl 23 _ rfl w.heap.size _ 23 _ rfl HG6.out _ Try.underlying23 rfl info23 ?_) | fail)
    refine (reeveref16_Due.calls (3 * l.length + 4) a0 a1 a2 a3 a4 a5 a6 a7 a8 a9 A c l tick key cost dv de _ HR6.out hc HDX.out).mono ?_
    rintro e w7 ⟨rfl, hb7⟩
    have HG7 := Aside0.mk ((hb7.block _ HS6.out).trans HG6.out)
    have HS7 := Aside0.mk (show w.heap.size < w7.heap.size from by have := hb7.size; have := HS6.out; omega)
    have HR7 := Aside0.mk (Kd.C_below HR6.out hb7)
    have HK7 := Aside0.mk (Kd.C_below HK6.out hb7)
    have HB7 := Aside0.mk (HB6.out.trans (hb7.mono HB6.out.size))
    clear hb7
    have HHX := Aside0.mk (refHolders_eq a0 a1 a2 a3 a4 a5 a6 a7 a8 a9 l tick (k := 3 * l.length + 4) (Nat.le_refl _))
    go_wp2_with (first | ((with_reducible refine gload 23 rfl ?_); refine wpList_load_blk rfl 23 _ rfl w.heap.size _ 23 _ rfl HG7.out _ Try.underlying23 rfl info23 ?_) | fail)
    refine (reeveref16_Holders.calls (3 * l.length + 4) a0 a1 a2 a3 a4 a5 a6 a7 a8 a9 A c l tick _ _ HR7.out hc HHX.out).mono ?_
    rintro e w8 ⟨vr, rfl, hRr, hb8⟩
    have HG8 := Aside0.mk ((hb8.block _ HS7.out).trans HG7.out)
    have HS8 := Aside0.mk (show w.heap.size < w8.heap.size from by have := hb8.size; have := HS7.out; omega)
    have HR8 := Aside0.mk (Kd.C_below HR7.out hb8)
    have HK8 := Aside0.mk (Kd.C_below HK7.out hb8)
    have HB8 := Aside0.mk (HB7.out.trans (hb8.mono HB7.out.size))
    rw [HHS.out] at hRr
    obtain ⟨Ar, cr, rfl, hcr, hCr⟩ := Kd.R_reads hRr
    clear hb8 hRr
    go_wp2_with fail
    refine (reevelaw16_SameKeys.calls (Hs.length + 1) Ah ch Hs Ar cr Hs true _ HK8.out hch hCr hcr (sameKeys_self Hs (by omega) (Nat.lt_succ_self _))).mono ?_
    rintro e w9 ⟨rfl, hd9⟩
    have hb9 : Below w8.heap.size w8 w9 := hd9.below
    have HG9 := Aside0.mk ((hb9.block _ HS8.out).trans HG8.out)
    have HR9 := Aside0.mk (Kd.C_below HR8.out hb9)
    have HS9 := Aside0.mk (show w.heap.size < w9.heap.size from by have := hb9.size; have := HS8.out; omega)
    have HB9 := Aside0.mk (HB8.out.trans (hb9.mono HB8.out.size))
    clear hb9 hd9
    have HOX := Aside0.mk (refOwed_eq a0 a1 a2 a3 a4 a5 a6 a7 a8 a9 l key tick (k := 3 * l.length + 4) (Nat.le_refl _))
    have HOX' := Aside0.mk (HOX.out.trans (congrArg some HNO.out))
    go_wp2_with (first | ((with_reducible refine gload 23 rfl ?_); (refine gate_guard (by rfl) ?_; dsimp only); refine wpList_load_blk rfl 23 _ rfl w.heap.size _ 23 _ rfl HG9.out _ Try.underlying23 rfl info23 ?_) | fail)
    refine (reeveref16_Owed.calls (3 * l.length + 4) a0 a1 a2 a3 a4 a5 a6 a7 a8 a9 A c l key tick no _ HR9.out hc HOX'.out).mono ?_
    rintro e w10 ⟨rfl, hb10⟩
    have HG10 := Aside0.mk ((hb10.block _ HS9.out).trans HG9.out)
    have HS10 := Aside0.mk (show w.heap.size < w10.heap.size from by have := hb10.size; have := HS9.out; omega)
    have HR10 := Aside0.mk (Kd.C_below HR9.out hb10)
    have HB10 := Aside0.mk (HB9.out.trans (hb10.mono HB9.out.size))
    clear hb10
    go_wp2_with fail
    go_ret
    exact ⟨rfl, HB10.out⟩
end Go.Proofs.Ytmlpahjmebfgbaa.Own
