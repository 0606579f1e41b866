/- Lemmas for a claim of this seat: texts of this session and of the kit's print, without what this claim does not use. -/
import Derived.Test.YtmlpahjmebfgbaaURefV
import Derived.Test.YtmlpahjmebfgbaaUAwk
import Derived.Test.YtmlpahjmebfgbaaULent
namespace Go.Proofs.Ytmlpahjmebfgbaa.Own
open Go.RowKit Go.Proofs.YtmlpahjmebfgbaaW.PrintWords Go.Proofs.YtmlpahjmebfgbaaW.PrintLast Go.Proofs.YtmlpahjmebfgbaaW.PrintMore Go.Proofs.Ytmlpahjmebfgbaa.PEx
set_option linter.unusedVariables false
set_option linter.unusedSimpArgs false

theorem C_left' {w : World} {ag : Addr} {l : List S42} {x : S42} (h : Kd.C k42 w (some ag) (l.length + 1) (l ++ [x])) : Kd.C k42 w (some ag) l.length l := by
  obtain ⟨h1, h2, h3⟩ := h
  refine ⟨rfl, by omega, fun h0 => ?_⟩
  obtain ⟨ad, e, h4⟩ := h3 (by omega)
  refine ⟨ad, e, fun j p hj => h4 j p ?_⟩
  rw [List.getElem?_append_left (List.getElem?_eq_some_iff.1 hj).1]
  exact hj

set_option maxRecDepth 100000 in
set_option maxHeartbeats 8000000 in
theorem Tells_fn (a0 a1 a2 a3 a4 a5 a6 a7 a8 a9 : Int) (A : Option Addr) (c : Nat) (l : List S42) (w : World) (hr : Kd.C k42 w A l.length l) (hc : l.length ≤ c) (hA : A = none → c = 0) (hsz : l.length * 40 ≤ 140737488351232) :
    Calls Try.prog 4 #[.agg #[.int .i64 a0, .int .i64 a1, .int .i64 a2, .int .i64 a3, .int .i64 a4, .int .i64 a5, .int .i64 a6, .int .i64 a7, .int .i64 a8, .int .i64 a9], .slice A l.length c] w fun e w' =>
      e = .returned (.bool true) ∧ Below w.heap.size w w' := by
  have HR := Aside0.mk hr
  have HA := Aside0.mk hA
  have HSZ := Aside0.mk hsz
  have hll : (l.length : Int) ≤ 4611686018427387904 := by omega
  clear hr hA hsz
  refine calls_of_wp Try.func4 rfl ?_
  simp only [Try.ntmps4, List.size_toArray, List.length_cons, List.length_nil, Nat.reduceAdd, Nat.reduceSub, Array.replicate_succ, Array.replicate_zero, List.push_toArray, List.append_toArray, List.nil_append, List.cons_append]
  go_wp2_with fail
  refine (awake_fn _).mono ?_
  rintro e w1 ⟨rfl, hb1⟩
  have g0 := (hb1.block w.heap.size (by simp)).trans (heap_alloc_new w _)
  have HB1 : Aside0 (Below w.heap.size w w1) := ⟨((Below.refl _ w).alloc (Nat.le_refl _) _).trans (hb1.mono (by simp))⟩
  have hs1 : w.heap.size < w1.heap.size := by have := hb1.size; simp at this; omega
  have HR1 := Aside0.mk (Kd.C_below HR.out HB1.out)
  have HS1 := Aside0.mk hs1
  have HG1 := Aside0.mk g0
  clear hb1 g0 hs1 HR
  rcases (show (200 < l.length ∧ l.length ≤ 10000) ∨ (200 < l.length ∧ ¬ l.length ≤ 10000) ∨ ¬ 200 < l.length from by omega) with ⟨h200, h10⟩ | ⟨h200, h10⟩ | h200
  case inl =>
    have i200 : (200 : Int) < (l.length : Int) := by omega
    have i10 : (l.length : Int) ≤ 10000 := by omega
    go_wp2_with fail
    go_ret
    exact ⟨rfl, HB1.out⟩
  case' inr.inl =>
    have i200 : (200 : Int) < (l.length : Int) := by omega
    have i10 : ¬ (l.length : Int) ≤ 10000 := by omega
    go_wp2_with (first | ((with_reducible refine gload 23 rfl ?_); refine wpList_load_blk rfl 23 _ rfl w.heap.size _ 23 _ rfl HG1.out _ Try.underlying23 rfl info23 ?_) | fail)
    clear i200 i10 h200 h10
  case' inr.inr =>
    have i200 : ¬ (200 : Int) < (l.length : Int) := by omega
    go_wp2_with (first | ((with_reducible refine gload 23 rfl ?_); refine wpList_load_blk rfl 23 _ rfl w.heap.size _ 23 _ rfl HG1.out _ Try.underlying23 rfl info23 ?_) | fail)
    clear i200 h200
  all_goals
    have hvl := verdX_length a0 a1 a2 a3 a4 a5 a6 a7 a8 a9 l
    have hvx := refVerdicts_eq a0 a1 a2 a3 a4 a5 a6 a7 a8 a9 l rfl
    obtain ⟨⟨V, ve⟩, hV⟩ : ∃ d, VerdictsX a0 a1 a2 a3 a4 a5 a6 a7 a8 a9 l = d := ⟨_, rfl⟩
    rw [hV] at hvx hvl
    simp only at hvl
    have HV := Aside0.mk hV
    have hvi : (V.length : Int) ≤ 10000 := by omega
    refine (reeveref16_Verdicts.calls (4 * l.length + 4) a0 a1 a2 a3 a4 a5 a6 a7 a8 a9 A c l V ve _ HR1.out hc hvx).mono ?_
    rintro e w2 ⟨v2, rfl, hR2, hb2⟩
    obtain ⟨Aw, cw, rfl, hcw, hCw⟩ := Kd.R_reads hR2
    have HW2 := Aside0.mk hCw
    clear hV hvx hR2 hCw
    have HG2 := Aside0.mk ((hb2.block _ HS1.out).trans HG1.out)
    have HS2 := Aside0.mk (show w.heap.size < w2.heap.size from by have := hb2.size; have := HS1.out; omega)
    have HR2 := Aside0.mk (Kd.C_below HR1.out hb2)
    have HB2 := Aside0.mk (HB1.out.trans (hb2.mono HB1.out.size))
    clear hb2
    go_wp2_with fail
    refine (Lent_fn A c l _ HR2.out HA.out HSZ.out).mono ?_
    rintro e w3 ⟨g, rfl, hg3, hC3, hb3⟩
    have HL3 := Aside0.mk hC3
    have HW3 := Aside0.mk (Kd.C_below HW2.out hb3)
    have HG3 := Aside0.mk ((hb3.block _ HS2.out).trans HG2.out)
    have HS3 := Aside0.mk (show w.heap.size < w3.heap.size from by have := hb3.size; have := HS2.out; omega)
    have HR3 := Aside0.mk (Kd.C_below HR2.out hb3)
    have HB3 := Aside0.mk (HB2.out.trans (hb3.mono HB2.out.size))
    clear hb3 hC3 hg3
    go_wp2_with (first | ((with_reducible refine gload 23 rfl ?_); refine wpList_load_blk rfl 23 _ rfl w.heap.size _ 23 _ rfl HG3.out _ Try.underlying23 rfl info23 ?_) | fail)
    refine (Verdicts_fn a0 a1 a2 a3 a4 a5 a6 a7 a8 a9 (some ⟨g, 0, none⟩) (l.length + 1) l _ (C_left' HL3.out) (by omega)).mono ?_
    rintro e w4 ⟨v4, rfl, hR4, hb4⟩
    rw [HV.out] at hR4 ⊢
    simp only at hR4 ⊢
    have HL4 := Aside0.mk (Kd.C_below HL3.out hb4)
    have HW4 := Aside0.mk (Kd.C_below HW3.out hb4)
    have HB34 := Aside0.mk hb4
    have HG4 := Aside0.mk ((hb4.block _ HS3.out).trans HG3.out)
    have HS4 := Aside0.mk (show w.heap.size < w4.heap.size from by have := hb4.size; have := HS3.out; omega)
    have HR4 := Aside0.mk (Kd.C_below HR3.out hb4)
    have HB4 := Aside0.mk (HB3.out.trans (hb4.mono HB3.out.size))
    clear hb4
    go_wp2_with fail
    refine (Kept_fn _ A c l _ HL4.out HR4.out HSZ.out).mono ?_
    rintro e w5 ⟨rfl, hb5⟩
    have HL5 := Aside0.mk (Kd.C_below HL4.out hb5)
    have HW5 := Aside0.mk (Kd.C_below HW4.out hb5)
    have HX5 := Aside0.mk (Kd.R_below hR4 hb5)
    have HB35 := Aside0.mk (HB34.out.trans (hb5.mono HB34.out.size))
    have HG5 := Aside0.mk ((hb5.block _ HS4.out).trans HG4.out)
    have HS5 := Aside0.mk (show w.heap.size < w5.heap.size from by have := hb5.size; have := HS4.out; omega)
    have HR5 := Aside0.mk (Kd.C_below HR4.out hb5)
    have HB5 := Aside0.mk (HB4.out.trans (hb5.mono HB4.out.size))
    clear hb5 hR4
    obtain ⟨A5, c5, e5, hc5, hC5⟩ := Kd.R_reads HX5.out
    subst e5
    go_wp2_with fail
    refine (reevelaw16_sameInts.calls (V.length + 1) A5 c5 V Aw cw V true _ hC5 hc5 HW5.out hcw (sameInts_true V hvl)).mono ?_
    rintro e w6 ⟨rfl, hd6⟩
    have hb6 : Below w5.heap.size w5 w6 := hd6.below
    have HL6 := Aside0.mk (Kd.C_below HL5.out hb6)
    have HW6 := Aside0.mk (Kd.C_below HW5.out hb6)
    have HX6 := Aside0.mk (Kd.R_below HX5.out hb6)
    have HB36 := Aside0.mk (HB35.out.trans (hb6.mono HB35.out.size))
    have HG6 := Aside0.mk ((hb6.block _ HS5.out).trans HG5.out)
    have HS6 := Aside0.mk (show w.heap.size < w6.heap.size from by have := hb6.size; have := HS5.out; omega)
    have HR6 := Aside0.mk (Kd.C_below HR5.out hb6)
    have HB6 := Aside0.mk (HB5.out.trans (hb6.mono HB5.out.size))
    clear hb6 hd6 hC5
    have hs36 := HB36.out.size
    go_wp2_with fail
    go_loopw [13] (fun i wr => ∃ (j : Nat) (xs : List Int), j ≤ V.length ∧ i = .int .i64 (j : Int) ∧ Aside0 (xs.length = V.length ∧ Kd.R (Kd.int .i64) 3 wr w3.heap.size (fun _ => True) (.slice A5 V.length c5) xs ∧ Below w3.heap.size w3 wr)) (fun i _ => V.length - (intOf i).toNat)
    case atStart => exact ⟨0, V, by omega, rfl, ⟨rfl, HX6.out, HB36.out⟩⟩
    case round =>
      obtain ⟨j, xs, hj, rfl, BS⟩ := hrel
      by_cases hlt : j < V.length
      · obtain ⟨hxl, hXR, hXB⟩ := BS.out
        obtain ⟨gx, cx, ex, hgx, hgl, cells, hcells⟩ := Kd.R_form hXR (by omega)
        rw [hxl] at ex
        injection ex with ex1 ex2 ex3
        subst ex1
        subst ex3
        rw [← hxl] at hXR
        obtain ⟨k0, k1⟩ := Kd.R_cell (0 : Int) hXR (j : Int) (by omega) (by omega)
        obtain ⟨hput, hgp⟩ := Kd.R_put hXR (j : Int) (9 : Int)
        rw [hxl] at hput
        simp only [Int.toNat_natCast] at k0 k1 hput hgp
        have HN : Aside0 ((xs.set j 9).length = V.length ∧ Kd.R (Kd.int .i64) 3 (wr.setCell ⟨gx, j, none⟩ (.int .i64 9)) w3.heap.size (fun _ => True) (.slice (some ⟨gx, 0, none⟩) V.length c5) (xs.set j 9) ∧ Below w3.heap.size w3 (wr.setCell ⟨gx, j, none⟩ (.int .i64 9))) :=
          ⟨by rw [List.length_set]; exact hxl, hput, hXB.trans (grown_below hgp hgx hXB.size)⟩
        have j0 : (0 : Int) ≤ (j : Int) := by omega
        have j1 : (j : Int) < (V.length : Int) := by omega
        clear hput hgp hXR hXB BS hcells
        go_wp2_with fail
        go_roundw
        case rel => exact ⟨j + 1, _, by omega, by go_num, HN⟩
        case measure => simp [intOf]; omega
      · obtain rfl : j = V.length := by omega
        obtain ⟨hxl, hXR, hXB⟩ := BS.out
        have hbr := hXB.size
        clear HX6 HL6 HW6 HG6 HS6 HR6 HB6 HL5 HW5 HG5 HS5 HR5 HB5 HX5 HL4 HW4 HG4 HS4 HR4 HB4 BS
        go_wp2_with (first | ((with_reducible refine gate_builtin (b := .append) (xs := #[.tmp 60, .tmp 61]) rfl ?_); at_builtin; refine Kd.R_append (Kd.int .i64) (w0 := w3) w3.heap.size rfl (.tmp 60) (.tmp 61) 36 3 (.int .i64 0) 8 rfl Try.underlying36 info3 rfl (by decide) (by omega) (.slice A5 V.length c5) xs 9 [.int .i64 9] (fun _ => True) (fun _ => False) rfl rfl rfl (fun _ hk => hk.elim) (fun k hk => trivial) hXR hXB (by omega) (by omega) ?_; intro v7 w7 ho hb hg hat; have HG7 := Aside0.mk ((hb.block _ HS3.out).trans HG3.out); have HO7 := Aside0.mk ho; have HB37 := Aside0.mk hb; clear ho hb hg hat) | ((with_reducible refine gload 23 rfl ?_); refine wpList_load_blk rfl 23 _ rfl w.heap.size _ 23 _ rfl HG7.out _ Try.underlying23 rfl info23 ?_) | fail)
        obtain ⟨A7, c7, e7⟩ := Kd.R_slice HO7.out
        subst e7
        have e8 : (xs ++ [(9 : Int)]).length = V.length + 1 := by rw [List.length_append, hxl]; rfl
        rw [e8]
        clear HO7
        refine (Verdicts_fn a0 a1 a2 a3 a4 a5 a6 a7 a8 a9 (some ⟨g, 0, none⟩) (l.length + 1) l _ (C_left' (Kd.C_below HL3.out HB37.out)) (by omega)).mono ?_
        rintro e w8 ⟨v8, rfl, hR8, hb8⟩
        rw [HV.out] at hR8 ⊢
        simp only at hR8 ⊢
        have hs37 := HB37.out.size
        have HB38 := Aside0.mk (HB37.out.trans (hb8.mono hs37))
        obtain ⟨A8, c8, e8', hc8, hC8⟩ := Kd.R_reads hR8
        subst e8'
        have HC8 := Aside0.mk hC8
        clear hR8 hC8 hb8 hXR hXB e8
        go_wp2_with fail
        refine (reevelaw16_sameInts.calls (V.length + 1) A8 c8 V Aw cw V true _ HC8.out hc8 (Kd.C_below HW3.out HB38.out) hcw (sameInts_true V hvl)).mono ?_
        rintro e w9 ⟨rfl, hd9⟩
        have hb9 : Below w8.heap.size w8 w9 := hd9.below
        have HB9 := Aside0.mk (HB3.out.trans ((HB38.out.trans (hb9.mono HB38.out.size)).mono HB3.out.size))
        clear hb9 hd9 HC8
        have hw1 : wrap64 ((V.length : Int) + 1) = ((V.length + 1 : Nat) : Int) := by rw [wrap64_small (by omega) (by omega)]; omega
        go_wp2_with fail
        go_ret
        exact ⟨rfl, HB9.out⟩
end Go.Proofs.Ytmlpahjmebfgbaa.Own
