/- Layer 10: a limiter does what a record says; another limiter alike. -/
import Derived.Test.YtnodnpenlplleaaLimC
import Derived.Test.YtnodnpenlplleaaClo
namespace Go.Proofs.Ytnodnpenlplleaa.Own
open Go.RowKit Go.Proofs.YtnodnpenlplleaaW.PrintWords Go.Proofs.YtnodnpenlplleaaW.PrintLast Go.Proofs.YtnodnpenlplleaaW.PrintMore
set_option linter.unusedVariables false
set_option linter.unusedSimpArgs false
attribute [local go_sem] Oper.semAt_some
def lapp__T4 : Bool × List (List Nat × List Nat) := (true, [([], []), ([0], [0]), ([1], [1]), ([2], [2]), ([], []), ([4], [4]), ([3, 5], [3, 5]), ([6, 6, 0, 1, 2, 3, 4, 5, 6], [6])])
def lapp__B4 : List Nat := [0, 1, 3, 7, 0, 16, 63, 127]
theorem lapp__tab4 : rtab .any (opsOf Try.f30 4) = lapp__T4 := by kernel_rfl
theorem lapp__bits4 : waitsOk lapp__T4.2 lapp__B4 = true := by kernel_rfl
def lapp__T8 : Bool × List (List Nat × List Nat) := (true, [([], []), ([0], [0]), ([1], [1]), ([2], [2]), ([], []), ([4], [4]), ([], []), ([6], [6]), ([3, 5, 7], [3, 5, 7]), ([8, 8, 0, 1, 2, 3, 4, 5, 6, 7, 8], [8])])
def lapp__B8 : List Nat := [0, 1, 3, 7, 0, 16, 0, 64, 255, 511]
theorem lapp__tab8 : rtab .any (opsOf Try.f30 8) = lapp__T8 := by kernel_rfl
theorem lapp__bits8 : waitsOk lapp__T8.2 lapp__B8 = true := by kernel_rfl
def lmclo__T1 : Bool × List (List Nat × List Nat) := (true, [([], []), ([0], [0]), ([1], [1]), ([2], [2]), ([3], [3]), ([], []), ([5], [5]), ([6], [6]), ([7], [7]), ([4, 8], [4, 8]), ([9], [9]), ([10, 4, 0, 1, 2, 3, 4, 5, 6, 7, 8, 9, 10], [10])])
def lmclo__B1 : List Nat := [0, 1, 3, 7, 15, 0, 32, 96, 224, 511, 1023, 2047]
theorem lmclo__tab1 : rtab .any (opsOf Try.f28 1) = lmclo__T1 := by kernel_rfl
theorem lmclo__bits1 : waitsOk lmclo__T1.2 lmclo__B1 = true := by kernel_rfl

theorem LimI.ledI {n : Nat} {w : World} {lb sb mb : Nat} {p : Pol} {s : LSt} (h : LimI n w lb sb mb p s) : LedI n w sb mb p s := ⟨h.lim.led, h.ok, h.at2, h.at3⟩
theorem LimI.led' {n : Nat} {w w' : World} {lb sb mb : Nat} {p : Pol} {s s' : LSt} (h : LimI n w lb sb mb p s) (hl : LedI n w' sb mb p s') (hk : Keeps (fun k => k = sb ∨ k = mb) w w') : LimI n w' lb sb mb p s' :=
  ⟨h.lim.led' hl.led hk, hl.ok, h.at1, h.at2, h.at3⟩
def applyE (s : LSt) (t : Int) (key : ByteArray) (c v : Int) : Int := if recE t key c v = 0 then moveE s.tick t else recE t key c v
def applyS (p : Pol) (s : LSt) (t : Int) (key : ByteArray) (c v : Int) : LSt := if recE t key c v = 0 ∧ moveE s.tick t = 0 then (if v = 1 then chargeS p (moveS p s t) key c else moveS p s t) else s
theorem recE_ok {t : Int} {key : ByteArray} {c v : Int} (h : recE t key c v = 0) : (0 ≤ t ∧ t ≤ 1099511627776) ∧ isKey key = true ∧ (1 ≤ c ∧ c ≤ 1048576) ∧ 0 ≤ v ∧ v ≤ 2 := by
  unfold recE at h
  split at h
  · split at h
    · split at h
      · split at h
        · exact ⟨by assumption, by assumption, by assumption, by assumption⟩
        · cases h
      · cases h
    · cases h
  · cases h

set_option maxRecDepth 100000 in
set_option maxHeartbeats 2000000 in
theorem ApplyI_fn (n : Nat) (w0 w : World) (lb sb mb : Nat) (p : Pol) (s : LSt) (t : Int) (key : ByteArray) (c v : Int) (h : LimI n w lb sb mb p s) (hn : n ≤ w.heap.size) (hb : Below n w0 w) (hk : key.size ≤ maxLen) (hlen : s.rows.length ≤ 100000) :
    Calls Try.prog 30 #[.pointer (some ⟨lb, 0, none⟩), .agg #[.int .i64 t, .string key, .int .i64 c, .int .i64 v]] w fun e w' => e = .returned (.int .i64 (applyE s t key c v)) ∧ LimI n w' lb sb mb p (applyS p s t key c v) ∧ Below n w0 w' ∧ n ≤ w'.heap.size ∧ Keeps (fun k => k = sb ∨ k = mb) w w' := by
  obtain ⟨rb, hrb⟩ : ∃ rb, w.heap.size = rb := ⟨_, rfl⟩
  have HRB := Aside0.mk hrb
  have HB0 := Aside0.mk (show Below w.heap.size w (w.alloc (.cells #[.int .i64 t, .string key, .int .i64 c, .int .i64 v] 49 (0, 0))) from (Below.refl _ w).alloc (Nat.le_refl _) _)
  have HG0 := Aside0.mk (heap_alloc_new w (.cells #[.int .i64 t, .string key, .int .i64 c, .int .i64 v] 49 (0, 0)))
  have HS0 := Aside0.mk (w.size_alloc (.cells #[.int .i64 t, .string key, .int .i64 c, .int .i64 v] 49 (0, 0)))
  have HI := Aside0.mk h
  have HN := Aside0.mk (And.intro hn hb)
  have HLN := Aside0.mk hlen
  have HLT := Aside0.mk (show rb ≠ sb ∧ rb ≠ mb from by have h1 := h.lim.led.lt_sb; have h2 := h.lim.led.lt_mb; omega)
  have HRR := Aside0.mk (fun w' => recRight_fn t key c v w')
  have HFIN := Aside0.mk (show ∀ (W : World), Below w.heap.size w W → LimI n W lb sb mb p s ∧ Below n w0 W ∧ n ≤ W.heap.size ∧ Keeps (fun k => k = sb ∨ k = mb) w W from fun W hB => ⟨HI.out.below hB, HN.out.2.trans (hB.mono HN.out.1), Nat.le_trans HN.out.1 hB.size, Keeps.of_below hB _⟩)
  by_cases he : recE t key c v = 0
  case neg =>
    have e1 : applyE s t key c v = recE t key c v := if_neg he
    have e2 : applyS p s t key c v = s := if_neg (fun h => he h.1)
    rw [e1, e2]
    clear e1 e2 h hn hb hk hlen HI HN HLN HLT hrb
    generalize recE t key c v = er at he HRR ⊢
    go_enter Try.func30, Try.ntmps30
    go_wp2_with (first | ((with_reducible refine gload 49 rfl ?_); refine wpList_load_blk rfl 49 _ rfl w.heap.size _ 49 _ rfl HG0.out _ Try.underlying49 rfl infoRec ?_) | fail)
    refine (HRR.out _).mono ?_
    rintro e w1 ⟨rfl, hb1⟩
    have HB1 := Aside0.mk (HB0.out.trans (hb1.mono (by rw [HS0.out]; omega)))
    clear hb1
    go_wp2_with fail
    go_ret
    exact ⟨rfl, HFIN.out _ HB1.out⟩
  have HOKR := Aside0.mk (recE_ok he)
  have HOK0 := Aside0.mk (moveS_ok HI.out.ok t)
  have HLN2 := Aside0.mk (Nat.le_trans (moveS_length p s t) HLN.out)
  have HMVI := Aside0.mk (show ∀ (W : World), LimI n W lb sb mb p s → n ≤ W.heap.size → Below n w0 W → Calls Try.prog 18 #[.pointer (some ⟨sb, 0, none⟩), .int .i64 t] W fun e w' => e = .returned (.int .i64 (moveE s.tick t)) ∧ LimI n w' lb sb mb p (moveS p s t) ∧ (Below n w0 w' ∧ n ≤ w'.heap.size) ∧ Keeps (fun k => k = sb ∨ k = mb) W w' from fun W hi hn' hb' => (MoveI_fn n w0 W sb mb p s t hi.ledI hn' hb' HLN.out).mono fun e w' hh => ⟨hh.1, hi.led' hh.2.1 hh.2.2.2, hh.2.2⟩)
  have HCHI := Aside0.mk (show ∀ (W : World), LimI n W lb sb mb p (moveS p s t) → n ≤ W.heap.size → Below n w0 W → Calls Try.prog 20 #[.pointer (some ⟨sb, 0, none⟩), .string key, .int .i64 c] W fun e w' => e = .returned (.int .i64 0) ∧ LimI n w' lb sb mb p (chargeS p (moveS p s t) key c) ∧ (Below n w0 w' ∧ n ≤ w'.heap.size) ∧ Keeps (fun k => k = sb ∨ k = mb) W w' from fun W hi hn' hb' => by
    have hce : chargeE key c = 0 := by unfold chargeE; rw [if_pos HOKR.out.2.1, if_pos HOKR.out.2.2.1]
    have hh := ChargeI_fn n w0 W sb mb p (moveS p s t) key c hi.ledI hn' hb' hk HLN2.out
    rw [hce] at hh
    exact hh.mono fun e w' hh => ⟨hh.1, hi.led' hh.2.1 hh.2.2.2, hh.2.2⟩)
  have hte : applyE s t key c v = moveE s.tick t := if_pos he
  have HTS := Aside0.mk (show ¬ moveE s.tick t = 0 → moveS p s t = s from moveS_not)
  have HT0 := Aside0.mk (show applyS p s t key c v = if moveE s.tick t = 0 then (if v = 1 then chargeS p (moveS p s t) key c else moveS p s t) else s from by unfold applyS; simp only [he, true_and])
  rw [hte]
  rw [he] at HRR
  generalize applyS p s t key c v = SF at HT0 ⊢
  generalize moveE s.tick t = me at HT0 HTS HMVI ⊢
  generalize moveS p s t = S2 at HT0 HTS HMVI HCHI
  generalize chargeS p S2 key c = S3 at HT0 HCHI
  have HKEYS := Aside0.mk (show ∀ (W : World) (S : LSt), LimI n W lb sb mb p S → W.heap[lb]? = some (.cells #[.pointer (some ⟨sb, 0, none⟩), .int .i64 p.keys] 54 (0, 0)) from fun W S h => h.lim.top)
  generalize p.keys = keys at HKEYS
  clear he hte h hn hb hk hlen HOKR HOK0 HLN HLN2 hrb
  go_enter Try.func30, Try.ntmps30
  go_wp2_with (first | ((with_reducible refine gload 49 rfl ?_); refine wpList_load_blk rfl 49 _ rfl w.heap.size _ 49 _ rfl HG0.out _ Try.underlying49 rfl infoRec ?_) | fail)
  rw [HRB.out]
  refine (HRR.out _).mono ?_
  rintro e w1 ⟨rfl, hb1⟩
  have HB1 := Aside0.mk (HB0.out.trans (hb1.mono (by rw [HS0.out]; omega)))
  have HG1 := Aside0.mk (show w1.heap[rb]? = some (.cells #[.int .i64 t, .string key, .int .i64 c, .int .i64 v] 49 (0, 0)) from by rw [← HRB.out]; exact (hb1.block _ (Array.getElem?_eq_some_iff.1 HG0.out).1).trans HG0.out)
  have HF1 := Aside0.mk (HFIN.out _ HB1.out)
  have HS1 := Aside0.mk ((HeldB.one (w0 := w1) (x := (rb, .cells #[.int .i64 t, .string key, .int .i64 c, .int .i64 v] 49 (0, 0))) HG1.out (Below.refl _ w1)).more (x := (lb, .cells #[.pointer (some ⟨sb, 0, none⟩), .int .i64 keys] 54 (0, 0))) (HKEYS.out _ _ HF1.out.1))
  have HMV := Aside0.mk (fun (W : World) (hb : Below w1.heap.size w1 W) => (HMVI.out W (HF1.out.1.below hb) (Nat.le_trans HF1.out.2.2.1 hb.size) (HF1.out.2.1.trans (hb.mono HF1.out.2.2.1))).mono fun e w' hh => (show e = .returned (.int .i64 me) ∧ LimI n w' lb sb mb p S2 ∧ (Below n w0 w' ∧ n ≤ w'.heap.size) ∧ w'.heap[rb]? = some (.cells #[.int .i64 t, .string key, .int .i64 c, .int .i64 v] 49 (0, 0)) ∧ Keeps (fun k => k = sb ∨ k = mb) w w' from
    ⟨hh.1, hh.2.1, hh.2.2.1, (hh.2.2.2.block rb (Nat.lt_of_lt_of_le (Array.getElem?_eq_some_iff.1 HG1.out).1 hb.size) (fun e => by rcases e with e | e; exact HLT.out.1 e; exact HLT.out.2 e)).trans ((hb.block _ (Array.getElem?_eq_some_iff.1 HG1.out).1).trans HG1.out), HF1.out.2.2.2.trans (hh.2.2.2.pre hb)⟩))
  clear hb1 HRR HB0 HG0 HFIN HMVI HB1 HI HN
  go_wp2_with fail
  refine start_ (n := 8) (S := HeldB w1 [(lb, .cells #[.pointer (some ⟨sb, 0, none⟩), .int .i64 keys] 54 (0, 0)), (rb, .cells #[.int .i64 t, .string key, .int .i64 c, .int .i64 v] 49 (0, 0))]) (ds := [6]) #[false, false, false, false, false, false, false, false] (by kernel_rfl) rfl rfl (HS1.out.drew) (fun hHeld => ?_); refine with_tabW lapp__tab4 lapp__bits4 (fun HT_ HW_ => ?_)
  refine pure_ (i := 0) (N := some 12) (v := ?_) (a' := ?_) #[true, false, false, false, false, false, false, false] rfl rfl (any_of HT_.out (by kernel_rfl)) (fun _ _ _ h => h) (Or.inl ⟨by rfl, ?_⟩) ?_ ?_
  rotate_left
  · intro w'
    go_simp
    try with_reducible rfl
  rotate_left
  · simp only [Act.put, List.setIfInBounds_toArray, List.set_cons_zero, List.set_cons_succ]
    rfl
  refine pure_ (i := 4) (N := some 16) (v := ?_) (a' := ?_) #[true, false, false, false, true, false, false, false] rfl rfl (any_of HT_.out (by kernel_rfl)) (fun _ _ _ h => h) (Or.inl ⟨by rfl, ?_⟩) ?_ ?_
  rotate_left
  · intro w'
    go_simp
    try with_reducible rfl
  rotate_left
  · simp only [Act.put, List.setIfInBounds_toArray, List.set_cons_zero, List.set_cons_succ]
    rfl
  refine pure_ (i := 1) (N := some 13) (v := ?_) (a' := ?_) #[true, true, false, false, true, false, false, false] rfl rfl (any_of HT_.out (by kernel_rfl)) (fun _ _ _ h => h) (Or.inl ⟨by rfl, ?_⟩) ?_ ?_
  rotate_left
  · intro w'
    go_simp
    try with_reducible rfl
  rotate_left
  · simp only [Act.put, List.setIfInBounds_toArray, List.set_cons_zero, List.set_cons_succ]
    rfl
  refine pure_ (i := 2) (N := some 14) (v := ?_) (a' := ?_) #[true, true, true, false, true, false, false, false] rfl rfl (any_of HT_.out (by kernel_rfl)) (fun _ _ _ h => h) (Or.inl ⟨by rfl, ?_⟩) ?_ ?_
  rotate_left
  · intro w'
    go_simp
    try with_reducible rfl
  rotate_left
  · simp only [Act.put, List.setIfInBounds_toArray, List.set_cons_zero, List.set_cons_succ]
    rfl
  refine take_ (i := 3) (N := some 15) (v := ?_) (a' := ?_) #[true, true, true, true, true, false, false, false] rfl rfl (take_ofW HT_.out HW_.out (by kernel_rfl)) (fun _ _ _ h => h) (Or.inl ⟨by rfl, ?_⟩) hHeld ?_ ?_
  rotate_left
  · intro w' hS'
    have hx := hS'.1 (lb, .cells #[.pointer (some ⟨sb, 0, none⟩), .int .i64 keys] 54 (0, 0)) (by simp)
    have c0 : w'.cell? ⟨lb, 0, none⟩ = some (.pointer (some ⟨sb, 0, none⟩)) := by rw [cell_of_row w' _ 0 _ _ _ hx]; rfl
    go_simp
    try with_reducible rfl
  rotate_left
  · simp only [Act.put, List.setIfInBounds_toArray, List.set_cons_zero, List.set_cons_succ]
    rfl
  refine take_ (i := 5) (N := some 17) (v := ?_) (a' := ?_) #[true, true, true, true, true, true, false, false] rfl rfl (take_ofW HT_.out HW_.out (by kernel_rfl)) (fun _ _ _ h => h) (Or.inl ⟨by rfl, ?_⟩) hHeld ?_ ?_
  rotate_left
  · intro w' hS'
    have hx := hS'.1 (rb, .cells #[.int .i64 t, .string key, .int .i64 c, .int .i64 v] 49 (0, 0)) (by simp)
    have c0 : w'.cell? ⟨rb, 0, none⟩ = some (.int .i64 t) := by rw [cell_of_row w' _ 0 _ _ _ hx]; rfl
    go_simp
    try with_reducible rfl
  rotate_left
  · simp only [Act.put, List.setIfInBounds_toArray, List.set_cons_zero, List.set_cons_succ]
    rfl
  refine last_ (i := 6) (N := some 18) #[true, true, true, true, true, true, true, false] rfl rfl (one_of HT_.out (by kernel_rfl)) (by decide) (fun K hK => ?_)
  refine goes_ Try.func18 (by kernel_rfl) rfl #[.pointer (some ⟨sb, 0, none⟩), .int .i64 t] (by rfl) rfl rfl (by simp [Act.eval]) ?_
  refine (HMV.out _ (hHeld.2)).mono ?_
  rintro e w3 ⟨rfl, h3⟩
  refine ⟨_, rfl, ?_⟩
  simp only [Act.put, List.setIfInBounds_toArray, List.set_cons_zero, List.set_cons_succ]
  have H3 := Aside0.mk h3
  clear h3
  refine hK.out _ _ ?_
  clear hK K
  refine pure_ (i := 7) (N := some 6) (v := ?_) (a' := ?_) #[true, true, true, true, true, true, true, true] rfl rfl (any_of HT_.out (by kernel_rfl)) (fun _ _ _ h => h) (Or.inl ⟨by rfl, ?_⟩) ?_ ?_
  rotate_left
  · intro w'
    go_simp
    try with_reducible rfl
  rotate_left
  · simp only [Act.put, List.setIfInBounds_toArray, List.set_cons_zero, List.set_cons_succ]
    rfl
  refine done_ (done_of HT_.out (by kernel_rfl)) ?_
  clear hHeld HT_ HW_

  have HG3 := Aside0.mk H3.out.2.2.1
  have HK3 := Aside0.mk H3.out.2.2.2
  have HI3 := Aside0.mk (And.intro H3.out.1 H3.out.2.1)
  clear H3 HMV HS1 HG1 HF1
  by_cases hm : me = 0
  case neg =>
    have hx := HTS.out hm
    have hsf : SF = s := by rw [HT0.out, if_neg hm]
    have HE := Aside0.mk (show LimI n w3 lb sb mb p s from by rw [← hx]; exact HI3.out.1)
    have HSF := Aside0.mk hsf
    clear hx hsf HT0 HTS HCHI
    go_wp2_with fail
    go_ret
    rw [HSF.out]
    exact ⟨rfl, HE.out, HI3.out.2.1, HI3.out.2.2, HK3.out⟩
  subst hm
  have h3c : w3.cell? ⟨rb, 3, none⟩ = some (.int .i64 v) := by rw [cell_of_row w3 _ 3 _ _ _ HG3.out]; rfl
  by_cases hv : v = 1
  case neg =>
    have hsf : SF = S2 := by rw [HT0.out, if_pos rfl, if_neg hv]
    have HSF := Aside0.mk hsf
    clear hsf HT0 HTS HCHI
    go_wp2_with fail
    go_ret
    rw [HSF.out]
    exact ⟨rfl, HI3.out.1, HI3.out.2.1, HI3.out.2.2, HK3.out⟩
  have hsf : SF = S3 := by rw [HT0.out, if_pos rfl, if_pos hv]
  have HS3 := Aside0.mk ((HeldB.one (w0 := w3) (x := (rb, .cells #[.int .i64 t, .string key, .int .i64 c, .int .i64 v] 49 (0, 0))) HG3.out (Below.refl _ w3)).more (x := (lb, .cells #[.pointer (some ⟨sb, 0, none⟩), .int .i64 keys] 54 (0, 0))) (HKEYS.out _ _ HI3.out.1))
  have HCH := Aside0.mk (fun (W : World) (hb : Below w3.heap.size w3 W) => (HCHI.out W (HI3.out.1.below hb) (Nat.le_trans HI3.out.2.2 hb.size) (HI3.out.2.1.trans (hb.mono HI3.out.2.2))).mono fun e w' hh => (show e = .returned (.int .i64 0) ∧ LimI n w' lb sb mb p S3 ∧ (Below n w0 w' ∧ n ≤ w'.heap.size) ∧ Keeps (fun k => k = sb ∨ k = mb) w w' from
    ⟨hh.1, hh.2.1, hh.2.2.1, HK3.out.trans (hh.2.2.2.pre hb)⟩))
  have HSF := Aside0.mk hsf
  subst hv
  clear hsf HT0 HTS HCHI HKEYS
  go_wp2_with fail
  refine start_ (n := 10) (S := HeldB w3 [(lb, .cells #[.pointer (some ⟨sb, 0, none⟩), .int .i64 keys] 54 (0, 0)), (rb, .cells #[.int .i64 t, .string key, .int .i64 c, .int .i64 1] 49 (0, 0))]) (ds := [8]) #[false, false, false, false, false, false, false, false, false, false] (by kernel_rfl) rfl rfl (HS3.out.drew) (fun hHeld => ?_); refine with_tabW lapp__tab8 lapp__bits8 (fun HT_ HW_ => ?_)
  refine pure_ (i := 0) (N := some 25) (v := ?_) (a' := ?_) #[true, false, false, false, false, false, false, false, false, false] rfl rfl (any_of HT_.out (by kernel_rfl)) (fun _ _ _ h => h) (Or.inl ⟨by rfl, ?_⟩) ?_ ?_
  rotate_left
  · intro w'
    go_simp
    try with_reducible rfl
  rotate_left
  · simp only [Act.put, List.setIfInBounds_toArray, List.set_cons_zero, List.set_cons_succ]
    rfl
  refine pure_ (i := 4) (N := some 29) (v := ?_) (a' := ?_) #[true, false, false, false, true, false, false, false, false, false] rfl rfl (any_of HT_.out (by kernel_rfl)) (fun _ _ _ h => h) (Or.inl ⟨by rfl, ?_⟩) ?_ ?_
  rotate_left
  · intro w'
    go_simp
    try with_reducible rfl
  rotate_left
  · simp only [Act.put, List.setIfInBounds_toArray, List.set_cons_zero, List.set_cons_succ]
    rfl
  refine pure_ (i := 6) (N := some 31) (v := ?_) (a' := ?_) #[true, false, false, false, true, false, true, false, false, false] rfl rfl (any_of HT_.out (by kernel_rfl)) (fun _ _ _ h => h) (Or.inl ⟨by rfl, ?_⟩) ?_ ?_
  rotate_left
  · intro w'
    go_simp
    try with_reducible rfl
  rotate_left
  · simp only [Act.put, List.setIfInBounds_toArray, List.set_cons_zero, List.set_cons_succ]
    rfl
  refine pure_ (i := 1) (N := some 26) (v := ?_) (a' := ?_) #[true, true, false, false, true, false, true, false, false, false] rfl rfl (any_of HT_.out (by kernel_rfl)) (fun _ _ _ h => h) (Or.inl ⟨by rfl, ?_⟩) ?_ ?_
  rotate_left
  · intro w'
    go_simp
    try with_reducible rfl
  rotate_left
  · simp only [Act.put, List.setIfInBounds_toArray, List.set_cons_zero, List.set_cons_succ]
    rfl
  refine pure_ (i := 2) (N := some 27) (v := ?_) (a' := ?_) #[true, true, true, false, true, false, true, false, false, false] rfl rfl (any_of HT_.out (by kernel_rfl)) (fun _ _ _ h => h) (Or.inl ⟨by rfl, ?_⟩) ?_ ?_
  rotate_left
  · intro w'
    go_simp
    try with_reducible rfl
  rotate_left
  · simp only [Act.put, List.setIfInBounds_toArray, List.set_cons_zero, List.set_cons_succ]
    rfl
  refine take_ (i := 3) (N := some 28) (v := ?_) (a' := ?_) #[true, true, true, true, true, false, true, false, false, false] rfl rfl (take_ofW HT_.out HW_.out (by kernel_rfl)) (fun _ _ _ h => h) (Or.inl ⟨by rfl, ?_⟩) hHeld ?_ ?_
  rotate_left
  · intro w' hS'
    have hx := hS'.1 (lb, .cells #[.pointer (some ⟨sb, 0, none⟩), .int .i64 keys] 54 (0, 0)) (by simp)
    have c0 : w'.cell? ⟨lb, 0, none⟩ = some (.pointer (some ⟨sb, 0, none⟩)) := by rw [cell_of_row w' _ 0 _ _ _ hx]; rfl
    go_simp
    try with_reducible rfl
  rotate_left
  · simp only [Act.put, List.setIfInBounds_toArray, List.set_cons_zero, List.set_cons_succ]
    rfl
  refine take_ (i := 5) (N := some 30) (v := ?_) (a' := ?_) #[true, true, true, true, true, true, true, false, false, false] rfl rfl (take_ofW HT_.out HW_.out (by kernel_rfl)) (fun _ _ _ h => h) (Or.inl ⟨by rfl, ?_⟩) hHeld ?_ ?_
  rotate_left
  · intro w' hS'
    have hx := hS'.1 (rb, .cells #[.int .i64 t, .string key, .int .i64 c, .int .i64 1] 49 (0, 0)) (by simp)
    have c0 : w'.cell? ⟨rb, 1, none⟩ = some (.string key) := by rw [cell_of_row w' _ 1 _ _ _ hx]; rfl
    go_simp
    try with_reducible rfl
  rotate_left
  · simp only [Act.put, List.setIfInBounds_toArray, List.set_cons_zero, List.set_cons_succ]
    rfl
  refine take_ (i := 7) (N := some 32) (v := ?_) (a' := ?_) #[true, true, true, true, true, true, true, true, false, false] rfl rfl (take_ofW HT_.out HW_.out (by kernel_rfl)) (fun _ _ _ h => h) (Or.inl ⟨by rfl, ?_⟩) hHeld ?_ ?_
  rotate_left
  · intro w' hS'
    have hx := hS'.1 (rb, .cells #[.int .i64 t, .string key, .int .i64 c, .int .i64 1] 49 (0, 0)) (by simp)
    have c0 : w'.cell? ⟨rb, 2, none⟩ = some (.int .i64 c) := by rw [cell_of_row w' _ 2 _ _ _ hx]; rfl
    go_simp
    try with_reducible rfl
  rotate_left
  · simp only [Act.put, List.setIfInBounds_toArray, List.set_cons_zero, List.set_cons_succ]
    rfl
  refine last_ (i := 8) (N := some 33) #[true, true, true, true, true, true, true, true, true, false] rfl rfl (one_of HT_.out (by kernel_rfl)) (by decide) (fun K hK => ?_)
  refine goes_ Try.func20 (by kernel_rfl) rfl #[.pointer (some ⟨sb, 0, none⟩), .string key, .int .i64 c] (by rfl) rfl rfl (by simp [Act.eval]) ?_
  refine (HCH.out _ (hHeld.2)).mono ?_
  rintro e w4 ⟨rfl, h4⟩
  refine ⟨_, rfl, ?_⟩
  simp only [Act.put, List.setIfInBounds_toArray, List.set_cons_zero, List.set_cons_succ]
  have H4 := Aside0.mk h4
  clear h4
  refine hK.out _ _ ?_
  clear hK K
  refine pure_ (i := 9) (N := some 4) (v := ?_) (a' := ?_) #[true, true, true, true, true, true, true, true, true, true] rfl rfl (any_of HT_.out (by kernel_rfl)) (fun _ _ _ h => h) (Or.inl ⟨by rfl, ?_⟩) ?_ ?_
  rotate_left
  · intro w'
    go_simp
    try with_reducible rfl
  rotate_left
  · simp only [Act.put, List.setIfInBounds_toArray, List.set_cons_zero, List.set_cons_succ]
    rfl
  refine done_ (done_of HT_.out (by kernel_rfl)) ?_
  clear hHeld HT_ HW_

  go_wp2_with fail
  go_ret
  rw [HSF.out]
  exact ⟨rfl, H4.out.1, H4.out.2.1.1, H4.out.2.1.2, H4.out.2.2⟩

set_option maxRecDepth 100000 in
set_option maxHeartbeats 1000000 in
theorem LimClone_fn (w : World) (lb sb mb : Nat) (p : Pol) (tick : Int) (rows : Rws) (h : Lim w lb sb mb p tick rows) :
    Calls Try.prog 28 #[.pointer (some ⟨lb, 0, none⟩)] w fun e w' => ∃ l2 s2 m2, e = .returned (.pointer (some ⟨l2, 0, none⟩)) ∧ w.heap.size ≤ l2 ∧ w.heap.size ≤ s2 ∧ w.heap.size ≤ m2 ∧ Lim w' l2 s2 m2 p tick rows ∧ Below w.heap.size w w' := by
  have HS0 := Aside0.mk (HeldB.one (w0 := w) (x := (lb, .cells #[.pointer (some ⟨sb, 0, none⟩), .int .i64 p.keys] 54 (0, 0))) h.top (Below.refl _ w))
  have HCL := Aside0.mk (fun w' (hb : Below w.heap.size w w') => LClone_fn w' sb mb p tick rows (h.led.below hb))
  have HLM := Aside0.mk (fun (W : World) (l s m : Nat) (h1 : W.heap[l]? = some (.cells #[.pointer (some ⟨s, 0, none⟩), .int .i64 p.keys] 54 (0, 0))) (h2 : Led W s m p tick rows) => (⟨h1, h2⟩ : Lim W l s m p tick rows))
  generalize p.keys = keys at HS0 HLM
  clear h
  go_enter Try.func28, Try.ntmps28
  go_wp2_with fail
  refine start_ (n := 12) (S := HeldB w [(lb, .cells #[.pointer (some ⟨sb, 0, none⟩), .int .i64 keys] 54 (0, 0))]) (ds := []) #[false, false, false, false, false, false, false, false, false, false, false, false] (by kernel_rfl) rfl rfl (HS0.out.drew) (fun hHeld => ?_); refine with_tabW lmclo__tab1 lmclo__bits1 (fun HT_ HW_ => ?_)
  refine pure_ (i := 0) (N := some 3) (v := ?_) (a' := ?_) #[true, false, false, false, false, false, false, false, false, false, false, false] rfl rfl (any_of HT_.out (by kernel_rfl)) (fun _ _ _ h => h) (Or.inl ⟨by rfl, ?_⟩) ?_ ?_
  rotate_left
  · intro w'
    go_simp
    try with_reducible rfl
  rotate_left
  · simp only [Act.put, List.setIfInBounds_toArray, List.set_cons_zero, List.set_cons_succ]
    rfl
  refine pure_ (i := 5) (N := some 8) (v := ?_) (a' := ?_) #[true, false, false, false, false, true, false, false, false, false, false, false] rfl rfl (any_of HT_.out (by kernel_rfl)) (fun _ _ _ h => h) (Or.inl ⟨by rfl, ?_⟩) ?_ ?_
  rotate_left
  · intro w'
    go_simp
    try with_reducible rfl
  rotate_left
  · simp only [Act.put, List.setIfInBounds_toArray, List.set_cons_zero, List.set_cons_succ]
    rfl
  refine pure_ (i := 1) (N := some 4) (v := ?_) (a' := ?_) #[true, true, false, false, false, true, false, false, false, false, false, false] rfl rfl (any_of HT_.out (by kernel_rfl)) (fun _ _ _ h => h) (Or.inl ⟨by rfl, ?_⟩) ?_ ?_
  rotate_left
  · intro w'
    go_simp
    try with_reducible rfl
  rotate_left
  · simp only [Act.put, List.setIfInBounds_toArray, List.set_cons_zero, List.set_cons_succ]
    rfl
  refine pure_ (i := 6) (N := some 9) (v := ?_) (a' := ?_) #[true, true, false, false, false, true, true, false, false, false, false, false] rfl rfl (any_of HT_.out (by kernel_rfl)) (fun _ _ _ h => h) (Or.inl ⟨by rfl, ?_⟩) ?_ ?_
  rotate_left
  · intro w'
    go_simp
    try with_reducible rfl
  rotate_left
  · simp only [Act.put, List.setIfInBounds_toArray, List.set_cons_zero, List.set_cons_succ]
    rfl
  refine pure_ (i := 2) (N := some 5) (v := ?_) (a' := ?_) #[true, true, true, false, false, true, true, false, false, false, false, false] rfl rfl (any_of HT_.out (by kernel_rfl)) (fun _ _ _ h => h) (Or.inl ⟨by rfl, ?_⟩) ?_ ?_
  rotate_left
  · intro w'
    go_simp
    try with_reducible rfl
  rotate_left
  · simp only [Act.put, List.setIfInBounds_toArray, List.set_cons_zero, List.set_cons_succ]
    rfl
  refine pure_ (i := 7) (N := some 10) (v := ?_) (a' := ?_) #[true, true, true, false, false, true, true, true, false, false, false, false] rfl rfl (any_of HT_.out (by kernel_rfl)) (fun _ _ _ h => h) (Or.inl ⟨by rfl, ?_⟩) ?_ ?_
  rotate_left
  · intro w'
    go_simp
    try with_reducible rfl
  rotate_left
  · simp only [Act.put, List.setIfInBounds_toArray, List.set_cons_zero, List.set_cons_succ]
    rfl
  refine take_ (i := 3) (N := some 6) (v := ?_) (a' := ?_) #[true, true, true, true, false, true, true, true, false, false, false, false] rfl rfl (take_ofW HT_.out HW_.out (by kernel_rfl)) (fun _ _ _ h => h) (Or.inl ⟨by rfl, ?_⟩) hHeld ?_ ?_
  rotate_left
  · intro w' hS'
    have hx := hS'.1 (lb, .cells #[.pointer (some ⟨sb, 0, none⟩), .int .i64 keys] 54 (0, 0)) (by simp)
    have c0 : w'.cell? ⟨lb, 0, none⟩ = some (.pointer (some ⟨sb, 0, none⟩)) := by rw [cell_of_row w' _ 0 _ _ _ hx]; rfl
    go_simp
    try with_reducible rfl
  rotate_left
  · simp only [Act.put, List.setIfInBounds_toArray, List.set_cons_zero, List.set_cons_succ]
    rfl
  refine take_ (i := 8) (N := some 11) (v := ?_) (a' := ?_) #[true, true, true, true, false, true, true, true, true, false, false, false] rfl rfl (take_ofW HT_.out HW_.out (by kernel_rfl)) (fun _ _ _ h => h) (Or.inl ⟨by rfl, ?_⟩) hHeld ?_ ?_
  rotate_left
  · intro w' hS'
    have hx := hS'.1 (lb, .cells #[.pointer (some ⟨sb, 0, none⟩), .int .i64 keys] 54 (0, 0)) (by simp)
    have c0 : w'.cell? ⟨lb, 1, none⟩ = some (.int .i64 keys) := by rw [cell_of_row w' _ 1 _ _ _ hx]; rfl
    go_simp
    try with_reducible rfl
  rotate_left
  · simp only [Act.put, List.setIfInBounds_toArray, List.set_cons_zero, List.set_cons_succ]
    rfl
  refine one_ (i := 4) (N := some 7) #[true, true, true, true, true, true, true, true, true, false, false, false] rfl rfl (one_of HT_.out (by kernel_rfl)) (by decide) (fun K hK => ?_)
  refine goes_ Try.func21 (by kernel_rfl) rfl #[.pointer (some ⟨sb, 0, none⟩)] (by rfl) rfl rfl (by simp [Act.eval]) ?_
  refine (HCL.out _ hHeld.2).mono ?_
  rintro e w2 ⟨s2, m2, rfl, h2, h3, hm, hb⟩
  refine ⟨_, rfl, ?_⟩
  simp only [Act.put, List.setIfInBounds_toArray, List.set_cons_zero, List.set_cons_succ]
  have HM := Aside0.mk (show Led w2 s2 m2 p tick rows ∧ Below w.heap.size w w2 ∧ w.heap.size ≤ s2 ∧ w.heap.size ≤ m2 from ⟨hm, hHeld.2.trans (hb.mono hHeld.2.size), h2, h3⟩)
  clear hm h2 h3
  refine hK.out _ _ (hHeld.step hb) (fun hHeld => ?_)
  clear hK K
  refine pure_ (i := 9) (N := some 12) (v := ?_) (a' := ?_) #[true, true, true, true, true, true, true, true, true, true, false, false] rfl rfl (any_of HT_.out (by kernel_rfl)) (fun _ _ _ h => h) (Or.inl ⟨by rfl, ?_⟩) ?_ ?_
  rotate_left
  · intro w'
    go_simp
    try with_reducible rfl
  rotate_left
  · simp only [Act.put, List.setIfInBounds_toArray, List.set_cons_zero, List.set_cons_succ]
    rfl
  refine one_ (i := 10) (N := some 13) #[true, true, true, true, true, true, true, true, true, true, true, false] rfl rfl (one_of HT_.out (by kernel_rfl)) (by decide) (fun K hK => ?_)
  rw [if_pos (by rfl)]
  go_simp
  have HL2 := Aside0.mk (HLM.out _ _ _ _ (heap_alloc_new w2 (.cells #[.pointer (some ⟨s2, 0, none⟩), .int .i64 keys] 54 (0, 0))) (HM.out.1.below ((Below.refl _ w2).alloc (Nat.le_refl _) _)))
  have HB2 := Aside0.mk (HM.out.2.1.trans (((Below.refl _ w2).alloc (Nat.le_refl _) (.cells #[.pointer (some ⟨s2, 0, none⟩), .int .i64 keys] 54 (0, 0))).mono HM.out.2.1.size))
  have HZ := Aside0.mk (And.intro HM.out.2.1.size HM.out.2.2)
  clear HM
  refine hK.out _ _ (hHeld.step ((Below.refl _ w2).alloc (Nat.le_refl _) _)) (fun hHeld => ?_)
  clear hK K
  refine pure_ (i := 11) (N := some 2) (v := ?_) (a' := ?_) #[true, true, true, true, true, true, true, true, true, true, true, true] rfl rfl (any_of HT_.out (by kernel_rfl)) (fun _ _ _ h => h) (Or.inl ⟨by rfl, ?_⟩) ?_ ?_
  rotate_left
  · intro w'
    go_simp
    try with_reducible rfl
  rotate_left
  · simp only [Act.put, List.setIfInBounds_toArray, List.set_cons_zero, List.set_cons_succ]
    rfl
  refine done_ (done_of HT_.out (by kernel_rfl)) ?_
  clear hHeld HT_ HW_
  go_wp2_with fail
  go_ret
  exact ⟨w2.heap.size, s2, m2, rfl, HZ.out.1, HZ.out.2.1, HZ.out.2.2, HL2.out, HB2.out⟩

end Go.Proofs.Ytnodnpenlplleaa.Own
