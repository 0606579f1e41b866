/- Layer 10: asking a limiter. -/
import Derived.Test.YtnodnpenlplleaaLimA
import Derived.Test.YtnodnpenlplleaaSt
namespace Go.Proofs.Ytnodnpenlplleaa.Own
open Go.RowKit Go.Proofs.YtnodnpenlplleaaW.PrintWords Go.Proofs.YtnodnpenlplleaaW.PrintLast Go.Proofs.YtnodnpenlplleaaW.PrintMore
set_option linter.unusedVariables false
set_option linter.unusedSimpArgs false
attribute [local go_sem] Oper.semAt_some
def ask__T6 : Bool × List (List Nat × List Nat) := (true, [([], []), ([0], [0]), ([1], [1]), ([2], [2]), ([], []), ([3, 4], [3, 4]), ([5], [5]), ([6, 5], [6]), ([7], [7]), ([8, 7], [7, 8]), ([9, 7], [7, 9]), ([10, 7], [7, 10]), ([11, 7, 7], [7, 11]), ([12, 7], [7, 12]), ([7], [7]), ([14, 7], [7, 14]), ([15, 7], [7, 15]), ([16, 7], [7, 16]), ([13, 17, 7], [7, 13, 17]), ([7, 18], [7, 18]), ([19, 12], [19])])
def ask__B6 : List Nat := [0, 1, 3, 7, 0, 31, 63, 127, 255, 511, 1023, 2047, 4095, 8191, 255, 16639, 49407, 114943, 262143, 524287, 1048575]
theorem ask__tab6 : rtab .any (opsOf Try.f27 6) = ask__T6 := by kernel_rfl
theorem ask__bits6 : waitsOk ask__T6.2 ask__B6 = true := by kernel_rfl

/-- There is no room for a key. -/
def fullR (p : Pol) (rows : Rws) (key : ByteArray) : Bool := !(lookR rows key).isSome && decide (p.keys ≤ rows.length)
def askE (s : LSt) (t : Int) (key : ByteArray) (c : Int) : Int := rightE s.tick t key c 0
def askM (p : Pol) (s : LSt) (t : Int) : Rws := moveR p s.tick t s.rows
def askV (p : Pol) (s : LSt) (t : Int) (key : ByteArray) (c : Int) : Int := if askE s t key c = 0 then (if fullR p (askM p s t) key = true then 2 else if mayR p t (askM p s t) key c = true then 1 else 0) else 0
def askS (p : Pol) (s : LSt) (t : Int) (key : ByteArray) (c : Int) : LSt := if askE s t key c = 0 then ⟨t, if askV p s t key c = 1 then chargeR p t (askM p s t) key c else askM p s t⟩ else s
theorem rightE_ok {now t : Int} {key : ByteArray} {c v : Int} (h : rightE now t key c v = 0) : now ≤ t ∧ 0 ≤ t ∧ t ≤ 1099511627776 ∧ isKey key = true ∧ (1 ≤ c ∧ c ≤ 1048576) ∧ 0 ≤ v ∧ v ≤ 2 := by
  unfold rightE recE at h
  by_cases h1 : 0 ≤ t ∧ t < now
  · rw [if_pos h1] at h; cases h
  · rw [if_neg h1] at h
    by_cases h2 : 0 ≤ t ∧ t ≤ 1099511627776
    · rw [if_pos h2] at h
      by_cases h3 : isKey key = true
      · rw [if_pos h3] at h
        by_cases h4 : 1 ≤ c ∧ c ≤ 1048576
        · rw [if_pos h4] at h
          by_cases h5 : 0 ≤ v ∧ v ≤ 2
          · exact ⟨by omega, h2.1, h2.2, h3, h4, h5⟩
          · rw [if_neg h5] at h; cases h
        · rw [if_neg h4] at h; cases h
      · rw [if_neg h3] at h; cases h
    · rw [if_neg h2] at h; cases h
theorem Keeps.pre {w w1 w2 : World} {ex : Nat → Prop} (hb : Below w.heap.size w w1) (h : Keeps ex w1 w2) : Keeps ex w w2 := (Keeps.of_below hb ex).trans h
theorem Keeps.post {w w1 w2 : World} {ex : Nat → Prop} (h : Keeps ex w w1) (hb : Below w1.heap.size w1 w2) : Keeps ex w w2 := h.trans (Keeps.of_below hb ex)

set_option maxRecDepth 100000 in
set_option maxHeartbeats 2000000 in
theorem Ask_fn (w : World) (lb sb mb : Nat) (p : Pol) (s : LSt) (t : Int) (key : ByteArray) (c : Int) (h : Lim w lb sb mb p s.tick s.rows) (ho : OkR p s.tick s.rows) (hk : key.size ≤ maxLen) (hlen : s.rows.length ≤ 100000) :
    Calls Try.prog 27 #[.pointer (some ⟨lb, 0, none⟩), .int .i64 t, .string key, .int .i64 c] w fun e w' => e = .returned (.tuple #[.int .i64 (askV p s t key c), .int .i64 (askE s t key c)]) ∧ Lim w' lb sb mb p (askS p s t key c).tick (askS p s t key c).rows ∧ Keeps (fun k => k = sb ∨ k = mb) w w' := by
  have HRT := Aside0.mk (fun w' (hb : Below w.heap.size w w') => rightL_fn w' lb sb mb p s.tick s.rows t key c 0 (h.below hb))
  have HLM := Aside0.mk h
  have HOK := Aside0.mk ho
  have HLN := Aside0.mk hlen
  obtain ⟨tick, rows⟩ := s
  simp only at HRT HLM HOK HLN
  by_cases he : rightE tick t key c 0 = 0
  case neg =>
    have e1 : askE ⟨tick, rows⟩ t key c = rightE tick t key c 0 := rfl
    have e2 : askV p ⟨tick, rows⟩ t key c = 0 := by unfold askV; exact if_neg he
    have e3 : askS p ⟨tick, rows⟩ t key c = ⟨tick, rows⟩ := by unfold askS; exact if_neg he
    rw [e1, e2, e3]
    simp only
    generalize rightE tick t key c 0 = er at HRT he
    have hne : decide (er = 0) = false := decide_eq_false he
    have HB0 := Aside0.mk (show Below w.heap.size w (w.alloc (.cells #[.int .i64 t, .string key, .int .i64 c, .int .i64 0] 49 (0, 0))) from (Below.refl _ w).alloc (Nat.le_refl _) _)
    clear e1 e2 e3 h ho hlen hk
    go_enter Try.func27, Try.ntmps27
    go_wp2_with fail
    refine (HRT.out _ HB0.out).mono ?_
    rintro e w1 ⟨rfl, hb1⟩
    have HB1 := Aside0.mk (HB0.out.trans (hb1.mono (by simp)))
    clear hb1 HB0
    go_wp2_with fail
    exact ⟨rfl, _, results_tmp2 rfl _ _ _, rfl, HLM.out.below HB1.out, Keeps.of_below HB1.out _⟩
  case pos =>
    have HB0 := Aside0.mk (show Below w.heap.size w (w.alloc (.cells #[.int .i64 t, .string key, .int .i64 c, .int .i64 0] 49 (0, 0))) from (Below.refl _ w).alloc (Nat.le_refl _) _)
    have HRE := Aside0.mk (rightE_ok he)
    obtain ⟨r1, r2, r3, r4, r5, _⟩ := HRE.out
    have em : moveE tick t = 0 := moveE_ok.2 ⟨r1, r3⟩
    have et : tickM tick t = t := by unfold tickM; rw [em, if_pos rfl]
    have er : rowsM p tick rows t = moveR p tick t rows := by unfold rowsM; rw [em, if_pos rfl]
    have HMOVE := Aside0.mk (fun w' (hb : Below w.heap.size w w') => MoveL_fn w' sb mb p tick t rows (HLM.out.led.below hb) HOK.out (by have := HLN.out; simp only [maxLen]; omega))
    rw [em, et, er] at HMOVE
    have HOK2 := Aside0.mk (move_ok HOK.out r1 r3)
    have HLN2 := Aside0.mk (Nat.le_trans (move_length (p := p) (a := tick) (b := t) rows) HLN.out)
    have e1 : askE ⟨tick, rows⟩ t key c = 0 := he
    have e3 : askS p ⟨tick, rows⟩ t key c = ⟨t, if askV p ⟨tick, rows⟩ t key c = 1 then chargeR p t (askM p ⟨tick, rows⟩ t) key c else askM p ⟨tick, rows⟩ t⟩ := by unfold askS; rw [if_pos e1]
    have e2 : askV p ⟨tick, rows⟩ t key c = if fullR p (askM p ⟨tick, rows⟩ t) key = true then 2 else if mayR p t (askM p ⟨tick, rows⟩ t) key c = true then 1 else 0 := by unfold askV; rw [if_pos e1]
    rw [e1, e3]
    simp only
    have e4 : askM p ⟨tick, rows⟩ t = moveR p tick t rows := rfl
    rw [e4] at e2 ⊢
    generalize askV p ⟨tick, rows⟩ t key c = V at e2 ⊢
    generalize moveR p tick t rows = rows2 at e2 HMOVE HOK2 HLN2 ⊢
    have hce : chargeE key c = 0 := by unfold chargeE; rw [if_pos r4, if_pos r5]
    rw [he] at HRT
    have HE2 := Aside0.mk e2
    have HCE := Aside0.mk hce
    obtain ⟨PF, hPF⟩ : ∃ PF : World → Prop, ∀ w', PF w' = (Lim w' lb sb mb p t (if V = 1 then chargeR p t rows2 key c else rows2) ∧ Keeps (fun k => k = sb ∨ k = mb) w w') := ⟨_, fun _ => rfl⟩
    simp only [← hPF]
    have HPF := Aside0.mk hPF
    clear hPF
    clear e1 e2 e3 e4 em et er hce h ho hlen he r1 r2 r3 r4 r5
    go_enter Try.func27, Try.ntmps27
    go_wp2_with fail
    refine (HRT.out _ HB0.out).mono ?_
    rintro e w1 ⟨rfl, hb1⟩
    have HB1 := Aside0.mk (HB0.out.trans (hb1.mono (by simp)))
    clear hb1 HB0
    have c10 : w1.cell? ⟨lb, 0, none⟩ = some (.pointer (some ⟨sb, 0, none⟩)) := by rw [cell_of_row w1 _ 0 _ _ _ (HLM.out.below HB1.out).top]; rfl
    go_wp2_with fail
    refine (HMOVE.out _ HB1.out).mono ?_
    rintro e w3 ⟨rfl, hled3, hk3⟩
    have HLM3 := Aside0.mk ((HLM.out.below HB1.out).led' hled3 hk3)
    have HK3 := Aside0.mk (hk3.pre HB1.out)
    have HOWES := Aside0.mk (fun w' (hb : Below w3.heap.size w3 w') => Owes_fn w' sb mb p t rows2 key (HLM3.out.led.below hb) hk)
    have HKEYS := Aside0.mk (show ∀ w', Below w3.heap.size w3 w' → Calls Try.prog 22 #[.pointer (some ⟨sb, 0, none⟩)] w' fun e w'' => ∃ v, e = .returned v ∧ (∃ A cp, v = .slice A rows2.length cp) ∧ Below w'.heap.size w' w'' from fun w' hb => (Keys_fn w' sb mb p t rows2 (HLM3.out.led.below hb) HOK2.out.sorted HLN2.out).mono fun e w'' h => by
      obtain ⟨v, rfl, hR, hb⟩ := h
      obtain ⟨A, cp, e, _, _⟩ := Kd.R_reads hR
      exact ⟨v, rfl, ⟨A, cp, by rw [e]; simp [keysR]⟩, hb⟩)
    have HMAY := Aside0.mk (fun w' (hb : Below w3.heap.size w3 w') => MayL_fn w' sb mb p t rows2 key c (HLM3.out.led.below hb) HOK2.out hk)
    have HCHG := Aside0.mk (fun w' (hb : Below w3.heap.size w3 w') => Charge_fn w' sb mb p t rows2 key c (HLM3.out.led.below hb) HOK2.out hk (by have := HLN2.out; simp only [maxLen]; omega))
    rw [HCE.out] at HCHG
    have HS3 := Aside0.mk (HeldB.one (w0 := w3) (x := (lb, .cells #[.pointer (some ⟨sb, 0, none⟩), .int .i64 p.keys] 54 (0, 0))) HLM3.out.top (Below.refl _ w3))
    have HFIN := Aside0.mk (show ∀ (W : World), Below w3.heap.size w3 W → V ≠ 1 → PF W from fun W hb hV => by
      rw [HPF.out, if_neg hV]
      exact ⟨HLM3.out.below hb, HK3.out.post hb⟩)
    have HFIN1 := Aside0.mk (show ∀ (W W' : World), Below w3.heap.size w3 W → V = 1 → Led W' sb mb p t (chargeR p t rows2 key c) → Keeps (fun k => k = sb ∨ k = mb) W W' → PF W' from fun W W' hb hV hl hk' => by
      rw [HPF.out, if_pos hV]
      exact ⟨(HLM3.out.below hb).led' hl hk', (HK3.out.post hb).trans hk'⟩)
    have HVF := Aside0.mk (fun (h1 : (lookR rows2 key).isSome = false) (h2 : p.keys ≤ (rows2.length : Int)) => show V = 2 from by rw [HE2.out, if_pos (by unfold fullR; rw [h1]; simp [h2])])
    have HVM := Aside0.mk (fun (h1 : fullR p rows2 key = false) => show V = if mayR p t rows2 key c = true then 1 else 0 from by rw [HE2.out, if_neg (by rw [h1]; decide)])
    generalize mayR p t rows2 key c = mr at HMAY HVM
    have HFR := Aside0.mk (show fullR p rows2 key = (!(lookR rows2 key).isSome && decide (p.keys ≤ (rows2.length : Int))) from rfl)
    generalize fullR p rows2 key = fr at HVM HFR
    generalize (lookR rows2 key).isSome = owes at HOWES HVF HFR
    generalize chargeR p t rows2 key c = rows3 at HFIN1 HCHG
    generalize rows2.length = len at HKEYS HVF HFR
    generalize p.keys = keys at HS3 HVF HFR
    clear HPF hled3 hk3 hk HE2 HCE c10 HRT HRE HMOVE HLN HLN2 HOK HOK2 HLM HB1
    have c30 : w3.cell? ⟨lb, 0, none⟩ = some (.pointer (some ⟨sb, 0, none⟩)) := by rw [cell_of_row w3 _ 0 _ _ _ (HS3.out.1 (lb, .cells #[.pointer (some ⟨sb, 0, none⟩), .int .i64 keys] 54 (0, 0)) (by simp))]; rfl
    cases owes with
    | true =>
      have HFR2 := Aside0.mk (HVM.out (by rw [HFR.out]; rfl))
      clear HVM HVF HFR c30
      go_wp2_with fail
      refine start_ (n := 21) (S := HeldB w3 [(lb, .cells #[.pointer (some ⟨sb, 0, none⟩), .int .i64 keys] 54 (0, 0))]) (ds := []) #[false, false, false, false, false, false, false, false, false, false, false, false, false, false, false, false, false, false, false, false, false] (by kernel_rfl) rfl rfl (HS3.out.drew) (fun hHeld => ?_); refine with_tabW ask__tab6 ask__bits6 (fun HT_ HW_ => ?_)
      refine pure_ (i := 0) (N := some 29) (v := ?_) (a' := ?_) #[true, false, false, false, false, false, false, false, false, false, false, false, false, false, false, false, false, false, false, false, false] rfl rfl (any_of HT_.out (by kernel_rfl)) (fun _ _ _ h => h) (Or.inl ⟨by rfl, ?_⟩) ?_ ?_
      rotate_left
      · intro w'
        go_simp
        try with_reducible rfl
      rotate_left
      · simp only [Act.put, List.setIfInBounds_toArray, List.set_cons_zero, List.set_cons_succ]
        rfl
      refine pure_ (i := 4) (N := some 33) (v := ?_) (a' := ?_) #[true, false, false, false, true, false, false, false, false, false, false, false, false, false, false, false, false, false, false, false, false] rfl rfl (any_of HT_.out (by kernel_rfl)) (fun _ _ _ h => h) (Or.inl ⟨by rfl, ?_⟩) ?_ ?_
      rotate_left
      · intro w'
        go_simp
        try with_reducible rfl
      rotate_left
      · simp only [Act.put, List.setIfInBounds_toArray, List.set_cons_zero, List.set_cons_succ]
        rfl
      refine pure_ (i := 1) (N := some 30) (v := ?_) (a' := ?_) #[true, true, false, false, true, false, false, false, false, false, false, false, false, false, false, false, false, false, false, false, false] rfl rfl (any_of HT_.out (by kernel_rfl)) (fun _ _ _ h => h) (Or.inl ⟨by rfl, ?_⟩) ?_ ?_
      rotate_left
      · intro w'
        go_simp
        try with_reducible rfl
      rotate_left
      · simp only [Act.put, List.setIfInBounds_toArray, List.set_cons_zero, List.set_cons_succ]
        rfl
      refine pure_ (i := 2) (N := some 31) (v := ?_) (a' := ?_) #[true, true, true, false, true, false, false, false, false, false, false, false, false, false, false, false, false, false, false, false, false] rfl rfl (any_of HT_.out (by kernel_rfl)) (fun _ _ _ h => h) (Or.inl ⟨by rfl, ?_⟩) ?_ ?_
      rotate_left
      · intro w'
        go_simp
        try with_reducible rfl
      rotate_left
      · simp only [Act.put, List.setIfInBounds_toArray, List.set_cons_zero, List.set_cons_succ]
        rfl
      refine take_ (i := 3) (N := some 32) (v := ?_) (a' := ?_) #[true, true, true, true, true, false, false, false, false, false, false, false, false, false, false, false, false, false, false, false, false] rfl rfl (take_ofW HT_.out HW_.out (by kernel_rfl)) (fun _ _ _ h => h) (Or.inl ⟨by rfl, ?_⟩) hHeld ?_ ?_
      rotate_left
      · intro w' hS'
        have hx := hS'.1 (lb, .cells #[.pointer (some ⟨sb, 0, none⟩), .int .i64 keys] 54 (0, 0)) (by simp)
        have c0 : w'.cell? ⟨lb, 0, none⟩ = some (.pointer (some ⟨sb, 0, none⟩)) := by rw [cell_of_row w' _ 0 _ _ _ hx]; rfl
        go_simp
        try with_reducible rfl
      rotate_left
      · simp only [Act.put, List.setIfInBounds_toArray, List.set_cons_zero, List.set_cons_succ]
        rfl
      refine one_ (i := 5) (N := some 34) #[true, true, true, true, true, true, false, false, false, false, false, false, false, false, false, false, false, false, false, false, false] rfl rfl (one_of HT_.out (by kernel_rfl)) (by decide) (fun K hK => ?_)
      refine goes_ Try.func24 (by kernel_rfl) rfl #[.pointer (some ⟨sb, 0, none⟩), .string key] (by rfl) rfl rfl (by simp [Act.eval]) ?_
      refine (HOWES.out _ hHeld.2).mono ?_
      rintro e w4 ⟨rfl, hw4⟩
      refine ⟨_, rfl, ?_⟩
      simp only [Act.put, List.setIfInBounds_toArray, List.set_cons_zero, List.set_cons_succ]
      rw [hw4]
      clear hw4 w4
      refine hK.out _ _ (hHeld) (fun hHeld => ?_)
      clear hK K
      refine pure_ (i := 6) (N := some 35) (v := ?_) (a' := ?_) #[true, true, true, true, true, true, true, false, false, false, false, false, false, false, false, false, false, false, false, false, false] rfl rfl (any_of HT_.out (by kernel_rfl)) (fun _ _ _ h => h) (Or.inl ⟨by rfl, ?_⟩) ?_ ?_
      rotate_left
      · intro w'
        go_simp
        try with_reducible rfl
      rotate_left
      · simp only [Act.put, List.setIfInBounds_toArray, List.set_cons_zero, List.set_cons_succ]
        rfl
      refine pure_ (i := 7) (N := some 36) (v := ?_) (a' := ?_) #[true, true, true, true, true, true, true, true, false, false, false, false, false, false, false, false, false, false, false, false, false] rfl rfl (any_of HT_.out (by kernel_rfl)) (fun _ _ _ h => h) (Or.inl ⟨by rfl, ?_⟩) ?_ ?_
      rotate_left
      · intro w'
        go_simp
        try with_reducible rfl
      rotate_left
      · simp only [Act.put, List.setIfInBounds_toArray, List.set_cons_zero, List.set_cons_succ]
        rfl
      refine pure_ (i := 8) (N := some 37) (v := undef) (a' := ?_) #[true, true, true, true, true, true, true, true, true, false, false, false, false, false, false, false, false, false, false, false, false] rfl rfl (any_of HT_.out (by kernel_rfl)) (fun _ _ _ h => h) (Or.inr ⟨by rfl, rfl⟩) ?_ ?_
      rotate_left
      · simp only [Act.put, List.setIfInBounds_toArray, List.set_cons_zero, List.set_cons_succ]
        rfl
      refine pure_ (i := 14) (N := some 43) (v := undef) (a' := ?_) #[true, true, true, true, true, true, true, true, true, false, false, false, false, false, true, false, false, false, false, false, false] rfl rfl (any_of HT_.out (by kernel_rfl)) (fun _ _ _ h => h) (Or.inr ⟨by rfl, rfl⟩) ?_ ?_
      rotate_left
      · simp only [Act.put, List.setIfInBounds_toArray, List.set_cons_zero, List.set_cons_succ]
        rfl
      refine pure_ (i := 9) (N := some 38) (v := undef) (a' := ?_) #[true, true, true, true, true, true, true, true, true, true, false, false, false, false, true, false, false, false, false, false, false] rfl rfl (any_of HT_.out (by kernel_rfl)) (fun _ _ _ h => h) (Or.inr ⟨by rfl, rfl⟩) ?_ ?_
      rotate_left
      · simp only [Act.put, List.setIfInBounds_toArray, List.set_cons_zero, List.set_cons_succ]
        rfl
      refine pure_ (i := 15) (N := some 44) (v := undef) (a' := ?_) #[true, true, true, true, true, true, true, true, true, true, false, false, false, false, true, true, false, false, false, false, false] rfl rfl (any_of HT_.out (by kernel_rfl)) (fun _ _ _ h => h) (Or.inr ⟨by rfl, rfl⟩) ?_ ?_
      rotate_left
      · simp only [Act.put, List.setIfInBounds_toArray, List.set_cons_zero, List.set_cons_succ]
        rfl
      refine pure_ (i := 10) (N := some 39) (v := undef) (a' := ?_) #[true, true, true, true, true, true, true, true, true, true, true, false, false, false, true, true, false, false, false, false, false] rfl rfl (any_of HT_.out (by kernel_rfl)) (fun _ _ _ h => h) (Or.inr ⟨by rfl, rfl⟩) ?_ ?_
      rotate_left
      · simp only [Act.put, List.setIfInBounds_toArray, List.set_cons_zero, List.set_cons_succ]
        rfl
      refine pure_ (i := 16) (N := some 45) (v := undef) (a' := ?_) #[true, true, true, true, true, true, true, true, true, true, true, false, false, false, true, true, true, false, false, false, false] rfl rfl (any_of HT_.out (by kernel_rfl)) (fun _ _ _ h => h) (Or.inr ⟨by rfl, rfl⟩) ?_ ?_
      rotate_left
      · simp only [Act.put, List.setIfInBounds_toArray, List.set_cons_zero, List.set_cons_succ]
        rfl
      refine pure_ (i := 11) (N := some 40) (v := undef) (a' := ?_) #[true, true, true, true, true, true, true, true, true, true, true, true, false, false, true, true, true, false, false, false, false] rfl rfl (any_of HT_.out (by kernel_rfl)) (fun _ _ _ h => h) (Or.inr ⟨by rfl, rfl⟩) ?_ ?_
      rotate_left
      · simp only [Act.put, List.setIfInBounds_toArray, List.set_cons_zero, List.set_cons_succ]
        rfl
      refine pure_ (i := 17) (N := some 46) (v := undef) (a' := ?_) #[true, true, true, true, true, true, true, true, true, true, true, true, false, false, true, true, true, true, false, false, false] rfl rfl (any_of HT_.out (by kernel_rfl)) (fun _ _ _ h => h) (Or.inr ⟨by rfl, rfl⟩) ?_ ?_
      rotate_left
      · simp only [Act.put, List.setIfInBounds_toArray, List.set_cons_zero, List.set_cons_succ]
        rfl
      refine pure_ (i := 12) (N := some 41) (v := undef) (a' := ?_) #[true, true, true, true, true, true, true, true, true, true, true, true, true, false, true, true, true, true, false, false, false] rfl rfl (any_of HT_.out (by kernel_rfl)) (fun _ _ _ h => h) (Or.inr ⟨by rfl, rfl⟩) ?_ ?_
      rotate_left
      · simp only [Act.put, List.setIfInBounds_toArray, List.set_cons_zero, List.set_cons_succ]
        rfl
      refine pure_ (i := 13) (N := some 42) (v := undef) (a' := ?_) #[true, true, true, true, true, true, true, true, true, true, true, true, true, true, true, true, true, true, false, false, false] rfl rfl (any_of HT_.out (by kernel_rfl)) (fun _ _ _ h => h) (Or.inr ⟨by rfl, rfl⟩) ?_ ?_
      rotate_left
      · simp only [Act.put, List.setIfInBounds_toArray, List.set_cons_zero, List.set_cons_succ]
        rfl
      refine pure_ (i := 18) (N := some 47) (v := undef) (a' := ?_) #[true, true, true, true, true, true, true, true, true, true, true, true, true, true, true, true, true, true, true, false, false] rfl rfl (any_of HT_.out (by kernel_rfl)) (fun _ _ _ h => h) (Or.inr ⟨by rfl, rfl⟩) ?_ ?_
      rotate_left
      · simp only [Act.put, List.setIfInBounds_toArray, List.set_cons_zero, List.set_cons_succ]
        rfl
      refine pure_ (i := 19) (N := some 48) (v := ?_) (a' := ?_) #[true, true, true, true, true, true, true, true, true, true, true, true, true, true, true, true, true, true, true, true, false] rfl rfl (any_of HT_.out (by kernel_rfl)) (fun _ _ _ h => h) (Or.inl ⟨by rfl, ?_⟩) ?_ ?_
      rotate_left
      · intro w'
        go_simp
        try with_reducible rfl
      rotate_left
      · simp only [Act.put, List.setIfInBounds_toArray, List.set_cons_zero, List.set_cons_succ]
        rfl
      refine pure_ (i := 20) (N := some 28) (v := ?_) (a' := ?_) #[true, true, true, true, true, true, true, true, true, true, true, true, true, true, true, true, true, true, true, true, true] rfl rfl (any_of HT_.out (by kernel_rfl)) (fun _ _ _ h => h) (Or.inl ⟨by rfl, ?_⟩) ?_ ?_
      rotate_left
      · intro w'
        go_simp
        try with_reducible rfl
      rotate_left
      · simp only [Act.put, List.setIfInBounds_toArray, List.set_cons_zero, List.set_cons_succ]
        rfl
      refine done_ (done_of HT_.out (by kernel_rfl)) ?_
      have HS4 := Aside0.mk hHeld
      clear hHeld HT_ HW_
      have c40 := (cell_of_row _ _ 0 _ _ _ (HS4.out.1 (lb, .cells #[.pointer (some ⟨sb, 0, none⟩), .int .i64 keys] 54 (0, 0)) (by simp))).trans (show _ = some (.pointer (some ⟨sb, 0, none⟩)) from rfl)
      go_wp2_with fail
      refine (HMAY.out _ HS4.out.2).mono ?_
      rintro e w5 ⟨rfl, hb5⟩
      have HS5 := Aside0.mk (HS4.out.step hb5)
      clear hb5 HS4 c40
      cases mr with
      | false =>
        have HV := Aside0.mk (show V = 0 from HFR2.out)
        go_wp2_with fail
        obtain rfl := HV.out
        exact ⟨rfl, _, results_tmp2 rfl _ _ _, rfl, HFIN.out _ HS5.out.2 (by decide)⟩
      | true =>
        have HV := Aside0.mk (show V = 1 from HFR2.out)
        have c50 : w5.cell? ⟨lb, 0, none⟩ = some (.pointer (some ⟨sb, 0, none⟩)) := by rw [cell_of_row w5 _ 0 _ _ _ (HS5.out.1 (lb, .cells #[.pointer (some ⟨sb, 0, none⟩), .int .i64 keys] 54 (0, 0)) (by simp))]; rfl
        go_wp2_with fail
        refine (HCHG.out _ HS5.out.2).mono ?_
        rintro e w6 ⟨rfl, hled6, hk6⟩
        have HK6 := Aside0.mk (And.intro hled6 hk6)
        clear hled6 hk6
        go_wp2_with fail
        obtain rfl := HV.out
        exact ⟨rfl, _, results_tmp2 rfl _ _ _, rfl, HFIN1.out _ _ HS5.out.2 rfl HK6.out.1 HK6.out.2⟩
    | false =>
      by_cases hf : keys ≤ (len : Int)
      · have HV := Aside0.mk (HVF.out rfl hf)
        have hcond : decide (keys ≤ (len : Int)) = true := decide_eq_true hf
        clear HVM HVF HFR c30
        go_wp2_with fail
        refine start_ (n := 21) (S := HeldB w3 [(lb, .cells #[.pointer (some ⟨sb, 0, none⟩), .int .i64 keys] 54 (0, 0))]) (ds := []) #[false, false, false, false, false, false, false, false, false, false, false, false, false, false, false, false, false, false, false, false, false] (by kernel_rfl) rfl rfl (HS3.out.drew) (fun hHeld => ?_); refine with_tabW ask__tab6 ask__bits6 (fun HT_ HW_ => ?_)
        refine pure_ (i := 0) (N := some 29) (v := ?_) (a' := ?_) #[true, false, false, false, false, false, false, false, false, false, false, false, false, false, false, false, false, false, false, false, false] rfl rfl (any_of HT_.out (by kernel_rfl)) (fun _ _ _ h => h) (Or.inl ⟨by rfl, ?_⟩) ?_ ?_
        rotate_left
        · intro w'
          go_simp
          try with_reducible rfl
        rotate_left
        · simp only [Act.put, List.setIfInBounds_toArray, List.set_cons_zero, List.set_cons_succ]
          rfl
        refine pure_ (i := 4) (N := some 33) (v := ?_) (a' := ?_) #[true, false, false, false, true, false, false, false, false, false, false, false, false, false, false, false, false, false, false, false, false] rfl rfl (any_of HT_.out (by kernel_rfl)) (fun _ _ _ h => h) (Or.inl ⟨by rfl, ?_⟩) ?_ ?_
        rotate_left
        · intro w'
          go_simp
          try with_reducible rfl
        rotate_left
        · simp only [Act.put, List.setIfInBounds_toArray, List.set_cons_zero, List.set_cons_succ]
          rfl
        refine pure_ (i := 1) (N := some 30) (v := ?_) (a' := ?_) #[true, true, false, false, true, false, false, false, false, false, false, false, false, false, false, false, false, false, false, false, false] rfl rfl (any_of HT_.out (by kernel_rfl)) (fun _ _ _ h => h) (Or.inl ⟨by rfl, ?_⟩) ?_ ?_
        rotate_left
        · intro w'
          go_simp
          try with_reducible rfl
        rotate_left
        · simp only [Act.put, List.setIfInBounds_toArray, List.set_cons_zero, List.set_cons_succ]
          rfl
        refine pure_ (i := 2) (N := some 31) (v := ?_) (a' := ?_) #[true, true, true, false, true, false, false, false, false, false, false, false, false, false, false, false, false, false, false, false, false] rfl rfl (any_of HT_.out (by kernel_rfl)) (fun _ _ _ h => h) (Or.inl ⟨by rfl, ?_⟩) ?_ ?_
        rotate_left
        · intro w'
          go_simp
          try with_reducible rfl
        rotate_left
        · simp only [Act.put, List.setIfInBounds_toArray, List.set_cons_zero, List.set_cons_succ]
          rfl
        refine take_ (i := 3) (N := some 32) (v := ?_) (a' := ?_) #[true, true, true, true, true, false, false, false, false, false, false, false, false, false, false, false, false, false, false, false, false] rfl rfl (take_ofW HT_.out HW_.out (by kernel_rfl)) (fun _ _ _ h => h) (Or.inl ⟨by rfl, ?_⟩) hHeld ?_ ?_
        rotate_left
        · intro w' hS'
          have hx := hS'.1 (lb, .cells #[.pointer (some ⟨sb, 0, none⟩), .int .i64 keys] 54 (0, 0)) (by simp)
          have c0 : w'.cell? ⟨lb, 0, none⟩ = some (.pointer (some ⟨sb, 0, none⟩)) := by rw [cell_of_row w' _ 0 _ _ _ hx]; rfl
          go_simp
          try with_reducible rfl
        rotate_left
        · simp only [Act.put, List.setIfInBounds_toArray, List.set_cons_zero, List.set_cons_succ]
          rfl
        refine one_ (i := 5) (N := some 34) #[true, true, true, true, true, true, false, false, false, false, false, false, false, false, false, false, false, false, false, false, false] rfl rfl (one_of HT_.out (by kernel_rfl)) (by decide) (fun K hK => ?_)
        refine goes_ Try.func24 (by kernel_rfl) rfl #[.pointer (some ⟨sb, 0, none⟩), .string key] (by rfl) rfl rfl (by simp [Act.eval]) ?_
        refine (HOWES.out _ hHeld.2).mono ?_
        rintro e w4 ⟨rfl, hw4⟩
        refine ⟨_, rfl, ?_⟩
        simp only [Act.put, List.setIfInBounds_toArray, List.set_cons_zero, List.set_cons_succ]
        rw [hw4]
        clear hw4 w4
        refine hK.out _ _ (hHeld) (fun hHeld => ?_)
        clear hK K
        refine pure_ (i := 6) (N := some 35) (v := ?_) (a' := ?_) #[true, true, true, true, true, true, true, false, false, false, false, false, false, false, false, false, false, false, false, false, false] rfl rfl (any_of HT_.out (by kernel_rfl)) (fun _ _ _ h => h) (Or.inl ⟨by rfl, ?_⟩) ?_ ?_
        rotate_left
        · intro w'
          go_simp
          try with_reducible rfl
        rotate_left
        · simp only [Act.put, List.setIfInBounds_toArray, List.set_cons_zero, List.set_cons_succ]
          rfl
        refine pure_ (i := 7) (N := some 36) (v := ?_) (a' := ?_) #[true, true, true, true, true, true, true, true, false, false, false, false, false, false, false, false, false, false, false, false, false] rfl rfl (any_of HT_.out (by kernel_rfl)) (fun _ _ _ h => h) (Or.inl ⟨by rfl, ?_⟩) ?_ ?_
        rotate_left
        · intro w'
          go_simp
          try with_reducible rfl
        rotate_left
        · simp only [Act.put, List.setIfInBounds_toArray, List.set_cons_zero, List.set_cons_succ]
          rfl
        refine pure_ (i := 8) (N := some 37) (v := ?_) (a' := ?_) #[true, true, true, true, true, true, true, true, true, false, false, false, false, false, false, false, false, false, false, false, false] rfl rfl (any_of HT_.out (by kernel_rfl)) (fun _ _ _ h => h) (Or.inl ⟨by rfl, ?_⟩) ?_ ?_
        rotate_left
        · intro w'
          go_simp
          try with_reducible rfl
        rotate_left
        · simp only [Act.put, List.setIfInBounds_toArray, List.set_cons_zero, List.set_cons_succ]
          rfl
        refine pure_ (i := 14) (N := some 43) (v := ?_) (a' := ?_) #[true, true, true, true, true, true, true, true, true, false, false, false, false, false, true, false, false, false, false, false, false] rfl rfl (any_of HT_.out (by kernel_rfl)) (fun _ _ _ h => h) (Or.inl ⟨by rfl, ?_⟩) ?_ ?_
        rotate_left
        · intro w'
          go_simp
          try with_reducible rfl
        rotate_left
        · simp only [Act.put, List.setIfInBounds_toArray, List.set_cons_zero, List.set_cons_succ]
          rfl
        refine pure_ (i := 9) (N := some 38) (v := ?_) (a' := ?_) #[true, true, true, true, true, true, true, true, true, true, false, false, false, false, true, false, false, false, false, false, false] rfl rfl (any_of HT_.out (by kernel_rfl)) (fun _ _ _ h => h) (Or.inl ⟨by rfl, ?_⟩) ?_ ?_
        rotate_left
        · intro w'
          go_simp
          try with_reducible rfl
        rotate_left
        · simp only [Act.put, List.setIfInBounds_toArray, List.set_cons_zero, List.set_cons_succ]
          rfl
        refine pure_ (i := 15) (N := some 44) (v := ?_) (a' := ?_) #[true, true, true, true, true, true, true, true, true, true, false, false, false, false, true, true, false, false, false, false, false] rfl rfl (any_of HT_.out (by kernel_rfl)) (fun _ _ _ h => h) (Or.inl ⟨by rfl, ?_⟩) ?_ ?_
        rotate_left
        · intro w'
          go_simp
          try with_reducible rfl
        rotate_left
        · simp only [Act.put, List.setIfInBounds_toArray, List.set_cons_zero, List.set_cons_succ]
          rfl
        refine pure_ (i := 10) (N := some 39) (v := ?_) (a' := ?_) #[true, true, true, true, true, true, true, true, true, true, true, false, false, false, true, true, false, false, false, false, false] rfl rfl (any_of HT_.out (by kernel_rfl)) (fun _ _ _ h => h) (Or.inl ⟨by rfl, ?_⟩) ?_ ?_
        rotate_left
        · intro w'
          go_simp
          try with_reducible rfl
        rotate_left
        · simp only [Act.put, List.setIfInBounds_toArray, List.set_cons_zero, List.set_cons_succ]
          rfl
        refine pure_ (i := 16) (N := some 45) (v := ?_) (a' := ?_) #[true, true, true, true, true, true, true, true, true, true, true, false, false, false, true, true, true, false, false, false, false] rfl rfl (any_of HT_.out (by kernel_rfl)) (fun _ _ _ h => h) (Or.inl ⟨by rfl, ?_⟩) ?_ ?_
        rotate_left
        · intro w'
          go_simp
          try with_reducible rfl
        rotate_left
        · simp only [Act.put, List.setIfInBounds_toArray, List.set_cons_zero, List.set_cons_succ]
          rfl
        refine take_ (i := 11) (N := some 40) (v := ?_) (a' := ?_) #[true, true, true, true, true, true, true, true, true, true, true, true, false, false, true, true, true, false, false, false, false] rfl rfl (take_ofW HT_.out HW_.out (by kernel_rfl)) (fun _ _ _ h => h) (Or.inl ⟨by rfl, ?_⟩) hHeld ?_ ?_
        rotate_left
        · intro w' hS'
          have hx := hS'.1 (lb, .cells #[.pointer (some ⟨sb, 0, none⟩), .int .i64 keys] 54 (0, 0)) (by simp)
          have c0 : w'.cell? ⟨lb, 0, none⟩ = some (.pointer (some ⟨sb, 0, none⟩)) := by rw [cell_of_row w' _ 0 _ _ _ hx]; rfl
          go_simp
          try with_reducible rfl
        rotate_left
        · simp only [Act.put, List.setIfInBounds_toArray, List.set_cons_zero, List.set_cons_succ]
          rfl
        refine take_ (i := 17) (N := some 46) (v := ?_) (a' := ?_) #[true, true, true, true, true, true, true, true, true, true, true, true, false, false, true, true, true, true, false, false, false] rfl rfl (take_ofW HT_.out HW_.out (by kernel_rfl)) (fun _ _ _ h => h) (Or.inl ⟨by rfl, ?_⟩) hHeld ?_ ?_
        rotate_left
        · intro w' hS'
          have hx := hS'.1 (lb, .cells #[.pointer (some ⟨sb, 0, none⟩), .int .i64 keys] 54 (0, 0)) (by simp)
          have c0 : w'.cell? ⟨lb, 1, none⟩ = some (.int .i64 keys) := by rw [cell_of_row w' _ 1 _ _ _ hx]; rfl
          go_simp
          try with_reducible rfl
        rotate_left
        · simp only [Act.put, List.setIfInBounds_toArray, List.set_cons_zero, List.set_cons_succ]
          rfl
        refine one_ (i := 12) (N := some 41) #[true, true, true, true, true, true, true, true, true, true, true, true, true, false, true, true, true, true, false, false, false] rfl rfl (one_of HT_.out (by kernel_rfl)) (by decide) (fun K hK => ?_)
        refine goes_ Try.func22 (by kernel_rfl) rfl #[.pointer (some ⟨sb, 0, none⟩)] (by rfl) rfl rfl (by simp [Act.eval]) ?_
        refine (HKEYS.out _ hHeld.2).mono ?_
        rintro e w4 ⟨v, rfl, ⟨A, cp, rfl⟩, hb⟩
        refine ⟨_, rfl, ?_⟩
        simp only [Act.put, List.setIfInBounds_toArray, List.set_cons_zero, List.set_cons_succ]
        refine hK.out _ _ (hHeld.step hb) (fun hHeld => ?_)
        clear hK K
        refine pure_ (i := 13) (N := some 42) (v := ?_) (a' := ?_) #[true, true, true, true, true, true, true, true, true, true, true, true, true, true, true, true, true, true, false, false, false] rfl rfl (any_of HT_.out (by kernel_rfl)) (fun _ _ _ h => h) (Or.inl ⟨by rfl, ?_⟩) ?_ ?_
        rotate_left
        · intro w'
          go_simp
          try with_reducible rfl
        rotate_left
        · simp only [Act.put, List.setIfInBounds_toArray, List.set_cons_zero, List.set_cons_succ]
          rfl
        refine pure_ (i := 18) (N := some 47) (v := ?_) (a' := ?_) #[true, true, true, true, true, true, true, true, true, true, true, true, true, true, true, true, true, true, true, false, false] rfl rfl (any_of HT_.out (by kernel_rfl)) (fun _ _ _ h => h) (Or.inl ⟨by rfl, ?_⟩) ?_ ?_
        rotate_left
        · intro w'
          go_simp
          try with_reducible rfl
        rotate_left
        · simp only [Act.put, List.setIfInBounds_toArray, List.set_cons_zero, List.set_cons_succ]
          rfl
        refine pure_ (i := 19) (N := some 48) (v := ?_) (a' := ?_) #[true, true, true, true, true, true, true, true, true, true, true, true, true, true, true, true, true, true, true, true, false] rfl rfl (any_of HT_.out (by kernel_rfl)) (fun _ _ _ h => h) (Or.inl ⟨by rfl, ?_⟩) ?_ ?_
        rotate_left
        · intro w'
          go_simp
          try with_reducible rfl
        rotate_left
        · simp only [Act.put, List.setIfInBounds_toArray, List.set_cons_zero, List.set_cons_succ]
          rfl
        refine pure_ (i := 20) (N := some 28) (v := ?_) (a' := ?_) #[true, true, true, true, true, true, true, true, true, true, true, true, true, true, true, true, true, true, true, true, true] rfl rfl (any_of HT_.out (by kernel_rfl)) (fun _ _ _ h => h) (Or.inl ⟨by rfl, ?_⟩) ?_ ?_
        rotate_left
        · intro w'
          go_simp
          try with_reducible rfl
        rotate_left
        · simp only [Act.put, List.setIfInBounds_toArray, List.set_cons_zero, List.set_cons_succ]
          rfl
        refine done_ (done_of HT_.out (by kernel_rfl)) ?_
        have HS4 := Aside0.mk hHeld
        clear hHeld HT_ HW_
        go_wp2_with fail
        obtain rfl := HV.out
        refine ⟨rfl, _, results_tmp2 rfl _ _ _, rfl, HFIN.out _ HS4.out.2 (by decide)⟩
      · have HFR2 := Aside0.mk (HVM.out (by rw [HFR.out, decide_eq_false hf]; rfl))
        have hcond : decide (keys ≤ (len : Int)) = false := decide_eq_false hf
        clear HVM HVF HFR c30
        go_wp2_with fail
        refine start_ (n := 21) (S := HeldB w3 [(lb, .cells #[.pointer (some ⟨sb, 0, none⟩), .int .i64 keys] 54 (0, 0))]) (ds := []) #[false, false, false, false, false, false, false, false, false, false, false, false, false, false, false, false, false, false, false, false, false] (by kernel_rfl) rfl rfl (HS3.out.drew) (fun hHeld => ?_); refine with_tabW ask__tab6 ask__bits6 (fun HT_ HW_ => ?_)
        refine pure_ (i := 0) (N := some 29) (v := ?_) (a' := ?_) #[true, false, false, false, false, false, false, false, false, false, false, false, false, false, false, false, false, false, false, false, false] rfl rfl (any_of HT_.out (by kernel_rfl)) (fun _ _ _ h => h) (Or.inl ⟨by rfl, ?_⟩) ?_ ?_
        rotate_left
        · intro w'
          go_simp
          try with_reducible rfl
        rotate_left
        · simp only [Act.put, List.setIfInBounds_toArray, List.set_cons_zero, List.set_cons_succ]
          rfl
        refine pure_ (i := 4) (N := some 33) (v := ?_) (a' := ?_) #[true, false, false, false, true, false, false, false, false, false, false, false, false, false, false, false, false, false, false, false, false] rfl rfl (any_of HT_.out (by kernel_rfl)) (fun _ _ _ h => h) (Or.inl ⟨by rfl, ?_⟩) ?_ ?_
        rotate_left
        · intro w'
          go_simp
          try with_reducible rfl
        rotate_left
        · simp only [Act.put, List.setIfInBounds_toArray, List.set_cons_zero, List.set_cons_succ]
          rfl
        refine pure_ (i := 1) (N := some 30) (v := ?_) (a' := ?_) #[true, true, false, false, true, false, false, false, false, false, false, false, false, false, false, false, false, false, false, false, false] rfl rfl (any_of HT_.out (by kernel_rfl)) (fun _ _ _ h => h) (Or.inl ⟨by rfl, ?_⟩) ?_ ?_
        rotate_left
        · intro w'
          go_simp
          try with_reducible rfl
        rotate_left
        · simp only [Act.put, List.setIfInBounds_toArray, List.set_cons_zero, List.set_cons_succ]
          rfl
        refine pure_ (i := 2) (N := some 31) (v := ?_) (a' := ?_) #[true, true, true, false, true, false, false, false, false, false, false, false, false, false, false, false, false, false, false, false, false] rfl rfl (any_of HT_.out (by kernel_rfl)) (fun _ _ _ h => h) (Or.inl ⟨by rfl, ?_⟩) ?_ ?_
        rotate_left
        · intro w'
          go_simp
          try with_reducible rfl
        rotate_left
        · simp only [Act.put, List.setIfInBounds_toArray, List.set_cons_zero, List.set_cons_succ]
          rfl
        refine take_ (i := 3) (N := some 32) (v := ?_) (a' := ?_) #[true, true, true, true, true, false, false, false, false, false, false, false, false, false, false, false, false, false, false, false, false] rfl rfl (take_ofW HT_.out HW_.out (by kernel_rfl)) (fun _ _ _ h => h) (Or.inl ⟨by rfl, ?_⟩) hHeld ?_ ?_
        rotate_left
        · intro w' hS'
          have hx := hS'.1 (lb, .cells #[.pointer (some ⟨sb, 0, none⟩), .int .i64 keys] 54 (0, 0)) (by simp)
          have c0 : w'.cell? ⟨lb, 0, none⟩ = some (.pointer (some ⟨sb, 0, none⟩)) := by rw [cell_of_row w' _ 0 _ _ _ hx]; rfl
          go_simp
          try with_reducible rfl
        rotate_left
        · simp only [Act.put, List.setIfInBounds_toArray, List.set_cons_zero, List.set_cons_succ]
          rfl
        refine one_ (i := 5) (N := some 34) #[true, true, true, true, true, true, false, false, false, false, false, false, false, false, false, false, false, false, false, false, false] rfl rfl (one_of HT_.out (by kernel_rfl)) (by decide) (fun K hK => ?_)
        refine goes_ Try.func24 (by kernel_rfl) rfl #[.pointer (some ⟨sb, 0, none⟩), .string key] (by rfl) rfl rfl (by simp [Act.eval]) ?_
        refine (HOWES.out _ hHeld.2).mono ?_
        rintro e w4 ⟨rfl, hw4⟩
        refine ⟨_, rfl, ?_⟩
        simp only [Act.put, List.setIfInBounds_toArray, List.set_cons_zero, List.set_cons_succ]
        rw [hw4]
        clear hw4 w4
        refine hK.out _ _ (hHeld) (fun hHeld => ?_)
        clear hK K
        refine pure_ (i := 6) (N := some 35) (v := ?_) (a' := ?_) #[true, true, true, true, true, true, true, false, false, false, false, false, false, false, false, false, false, false, false, false, false] rfl rfl (any_of HT_.out (by kernel_rfl)) (fun _ _ _ h => h) (Or.inl ⟨by rfl, ?_⟩) ?_ ?_
        rotate_left
        · intro w'
          go_simp
          try with_reducible rfl
        rotate_left
        · simp only [Act.put, List.setIfInBounds_toArray, List.set_cons_zero, List.set_cons_succ]
          rfl
        refine pure_ (i := 7) (N := some 36) (v := ?_) (a' := ?_) #[true, true, true, true, true, true, true, true, false, false, false, false, false, false, false, false, false, false, false, false, false] rfl rfl (any_of HT_.out (by kernel_rfl)) (fun _ _ _ h => h) (Or.inl ⟨by rfl, ?_⟩) ?_ ?_
        rotate_left
        · intro w'
          go_simp
          try with_reducible rfl
        rotate_left
        · simp only [Act.put, List.setIfInBounds_toArray, List.set_cons_zero, List.set_cons_succ]
          rfl
        refine pure_ (i := 8) (N := some 37) (v := ?_) (a' := ?_) #[true, true, true, true, true, true, true, true, true, false, false, false, false, false, false, false, false, false, false, false, false] rfl rfl (any_of HT_.out (by kernel_rfl)) (fun _ _ _ h => h) (Or.inl ⟨by rfl, ?_⟩) ?_ ?_
        rotate_left
        · intro w'
          go_simp
          try with_reducible rfl
        rotate_left
        · simp only [Act.put, List.setIfInBounds_toArray, List.set_cons_zero, List.set_cons_succ]
          rfl
        refine pure_ (i := 14) (N := some 43) (v := ?_) (a' := ?_) #[true, true, true, true, true, true, true, true, true, false, false, false, false, false, true, false, false, false, false, false, false] rfl rfl (any_of HT_.out (by kernel_rfl)) (fun _ _ _ h => h) (Or.inl ⟨by rfl, ?_⟩) ?_ ?_
        rotate_left
        · intro w'
          go_simp
          try with_reducible rfl
        rotate_left
        · simp only [Act.put, List.setIfInBounds_toArray, List.set_cons_zero, List.set_cons_succ]
          rfl
        refine pure_ (i := 9) (N := some 38) (v := ?_) (a' := ?_) #[true, true, true, true, true, true, true, true, true, true, false, false, false, false, true, false, false, false, false, false, false] rfl rfl (any_of HT_.out (by kernel_rfl)) (fun _ _ _ h => h) (Or.inl ⟨by rfl, ?_⟩) ?_ ?_
        rotate_left
        · intro w'
          go_simp
          try with_reducible rfl
        rotate_left
        · simp only [Act.put, List.setIfInBounds_toArray, List.set_cons_zero, List.set_cons_succ]
          rfl
        refine pure_ (i := 15) (N := some 44) (v := ?_) (a' := ?_) #[true, true, true, true, true, true, true, true, true, true, false, false, false, false, true, true, false, false, false, false, false] rfl rfl (any_of HT_.out (by kernel_rfl)) (fun _ _ _ h => h) (Or.inl ⟨by rfl, ?_⟩) ?_ ?_
        rotate_left
        · intro w'
          go_simp
          try with_reducible rfl
        rotate_left
        · simp only [Act.put, List.setIfInBounds_toArray, List.set_cons_zero, List.set_cons_succ]
          rfl
        refine pure_ (i := 10) (N := some 39) (v := ?_) (a' := ?_) #[true, true, true, true, true, true, true, true, true, true, true, false, false, false, true, true, false, false, false, false, false] rfl rfl (any_of HT_.out (by kernel_rfl)) (fun _ _ _ h => h) (Or.inl ⟨by rfl, ?_⟩) ?_ ?_
        rotate_left
        · intro w'
          go_simp
          try with_reducible rfl
        rotate_left
        · simp only [Act.put, List.setIfInBounds_toArray, List.set_cons_zero, List.set_cons_succ]
          rfl
        refine pure_ (i := 16) (N := some 45) (v := ?_) (a' := ?_) #[true, true, true, true, true, true, true, true, true, true, true, false, false, false, true, true, true, false, false, false, false] rfl rfl (any_of HT_.out (by kernel_rfl)) (fun _ _ _ h => h) (Or.inl ⟨by rfl, ?_⟩) ?_ ?_
        rotate_left
        · intro w'
          go_simp
          try with_reducible rfl
        rotate_left
        · simp only [Act.put, List.setIfInBounds_toArray, List.set_cons_zero, List.set_cons_succ]
          rfl
        refine take_ (i := 11) (N := some 40) (v := ?_) (a' := ?_) #[true, true, true, true, true, true, true, true, true, true, true, true, false, false, true, true, true, false, false, false, false] rfl rfl (take_ofW HT_.out HW_.out (by kernel_rfl)) (fun _ _ _ h => h) (Or.inl ⟨by rfl, ?_⟩) hHeld ?_ ?_
        rotate_left
        · intro w' hS'
          have hx := hS'.1 (lb, .cells #[.pointer (some ⟨sb, 0, none⟩), .int .i64 keys] 54 (0, 0)) (by simp)
          have c0 : w'.cell? ⟨lb, 0, none⟩ = some (.pointer (some ⟨sb, 0, none⟩)) := by rw [cell_of_row w' _ 0 _ _ _ hx]; rfl
          go_simp
          try with_reducible rfl
        rotate_left
        · simp only [Act.put, List.setIfInBounds_toArray, List.set_cons_zero, List.set_cons_succ]
          rfl
        refine take_ (i := 17) (N := some 46) (v := ?_) (a' := ?_) #[true, true, true, true, true, true, true, true, true, true, true, true, false, false, true, true, true, true, false, false, false] rfl rfl (take_ofW HT_.out HW_.out (by kernel_rfl)) (fun _ _ _ h => h) (Or.inl ⟨by rfl, ?_⟩) hHeld ?_ ?_
        rotate_left
        · intro w' hS'
          have hx := hS'.1 (lb, .cells #[.pointer (some ⟨sb, 0, none⟩), .int .i64 keys] 54 (0, 0)) (by simp)
          have c0 : w'.cell? ⟨lb, 1, none⟩ = some (.int .i64 keys) := by rw [cell_of_row w' _ 1 _ _ _ hx]; rfl
          go_simp
          try with_reducible rfl
        rotate_left
        · simp only [Act.put, List.setIfInBounds_toArray, List.set_cons_zero, List.set_cons_succ]
          rfl
        refine one_ (i := 12) (N := some 41) #[true, true, true, true, true, true, true, true, true, true, true, true, true, false, true, true, true, true, false, false, false] rfl rfl (one_of HT_.out (by kernel_rfl)) (by decide) (fun K hK => ?_)
        refine goes_ Try.func22 (by kernel_rfl) rfl #[.pointer (some ⟨sb, 0, none⟩)] (by rfl) rfl rfl (by simp [Act.eval]) ?_
        refine (HKEYS.out _ hHeld.2).mono ?_
        rintro e w4 ⟨v, rfl, ⟨A, cp, rfl⟩, hb⟩
        refine ⟨_, rfl, ?_⟩
        simp only [Act.put, List.setIfInBounds_toArray, List.set_cons_zero, List.set_cons_succ]
        refine hK.out _ _ (hHeld.step hb) (fun hHeld => ?_)
        clear hK K
        refine pure_ (i := 13) (N := some 42) (v := ?_) (a' := ?_) #[true, true, true, true, true, true, true, true, true, true, true, true, true, true, true, true, true, true, false, false, false] rfl rfl (any_of HT_.out (by kernel_rfl)) (fun _ _ _ h => h) (Or.inl ⟨by rfl, ?_⟩) ?_ ?_
        rotate_left
        · intro w'
          go_simp
          try with_reducible rfl
        rotate_left
        · simp only [Act.put, List.setIfInBounds_toArray, List.set_cons_zero, List.set_cons_succ]
          rfl
        refine pure_ (i := 18) (N := some 47) (v := ?_) (a' := ?_) #[true, true, true, true, true, true, true, true, true, true, true, true, true, true, true, true, true, true, true, false, false] rfl rfl (any_of HT_.out (by kernel_rfl)) (fun _ _ _ h => h) (Or.inl ⟨by rfl, ?_⟩) ?_ ?_
        rotate_left
        · intro w'
          go_simp
          try with_reducible rfl
        rotate_left
        · simp only [Act.put, List.setIfInBounds_toArray, List.set_cons_zero, List.set_cons_succ]
          rfl
        refine pure_ (i := 19) (N := some 48) (v := ?_) (a' := ?_) #[true, true, true, true, true, true, true, true, true, true, true, true, true, true, true, true, true, true, true, true, false] rfl rfl (any_of HT_.out (by kernel_rfl)) (fun _ _ _ h => h) (Or.inl ⟨by rfl, ?_⟩) ?_ ?_
        rotate_left
        · intro w'
          go_simp
          try with_reducible rfl
        rotate_left
        · simp only [Act.put, List.setIfInBounds_toArray, List.set_cons_zero, List.set_cons_succ]
          rfl
        refine pure_ (i := 20) (N := some 28) (v := ?_) (a' := ?_) #[true, true, true, true, true, true, true, true, true, true, true, true, true, true, true, true, true, true, true, true, true] rfl rfl (any_of HT_.out (by kernel_rfl)) (fun _ _ _ h => h) (Or.inl ⟨by rfl, ?_⟩) ?_ ?_
        rotate_left
        · intro w'
          go_simp
          try with_reducible rfl
        rotate_left
        · simp only [Act.put, List.setIfInBounds_toArray, List.set_cons_zero, List.set_cons_succ]
          rfl
        refine done_ (done_of HT_.out (by kernel_rfl)) ?_
        have HS4 := Aside0.mk hHeld
        clear hHeld HT_ HW_
        have c40 := (cell_of_row _ _ 0 _ _ _ (HS4.out.1 (lb, .cells #[.pointer (some ⟨sb, 0, none⟩), .int .i64 keys] 54 (0, 0)) (by simp))).trans (show _ = some (.pointer (some ⟨sb, 0, none⟩)) from rfl)
        go_wp2_with fail
        refine (HMAY.out _ HS4.out.2).mono ?_
        rintro e w5 ⟨rfl, hb5⟩
        have HS5 := Aside0.mk (HS4.out.step hb5)
        clear hb5 HS4 c40
        cases mr with
        | false =>
          have HV := Aside0.mk (show V = 0 from HFR2.out)
          go_wp2_with fail
          obtain rfl := HV.out
          exact ⟨rfl, _, results_tmp2 rfl _ _ _, rfl, HFIN.out _ HS5.out.2 (by decide)⟩
        | true =>
          have HV := Aside0.mk (show V = 1 from HFR2.out)
          have c50 : w5.cell? ⟨lb, 0, none⟩ = some (.pointer (some ⟨sb, 0, none⟩)) := by rw [cell_of_row w5 _ 0 _ _ _ (HS5.out.1 (lb, .cells #[.pointer (some ⟨sb, 0, none⟩), .int .i64 keys] 54 (0, 0)) (by simp))]; rfl
          go_wp2_with fail
          refine (HCHG.out _ HS5.out.2).mono ?_
          rintro e w6 ⟨rfl, hled6, hk6⟩
          have HK6 := Aside0.mk (And.intro hled6 hk6)
          clear hled6 hk6
          go_wp2_with fail
          obtain rfl := HV.out
          exact ⟨rfl, _, results_tmp2 rfl _ _ _, rfl, HFIN1.out _ _ HS5.out.2 rfl HK6.out.1 HK6.out.2⟩
end Go.Proofs.Ytnodnpenlplleaa.Own
