/- Layer 10: a record may be; a new limiter; what a limiter refuses. -/
import Derived.Test.YtnodnpenlplleaaSt
namespace Go.Proofs.Ytnodnpenlplleaa.Own
open Go.RowKit Go.Proofs.YtnodnpenlplleaaW.PrintWords Go.Proofs.YtnodnpenlplleaaW.PrintLast Go.Proofs.YtnodnpenlplleaaW.PrintMore
set_option linter.unusedVariables false
set_option linter.unusedSimpArgs false
attribute [local go_sem] Oper.semAt_some
def lright__T1 : Bool × List (List Nat × List Nat) := (true, [([], []), ([0], [0]), ([1], [1]), ([2], [2]), ([3], [3]), ([4, 3], [3, 4]), ([3], [3]), ([6, 3], [3, 6]), ([7, 3], [3, 7]), ([8, 3], [3, 8]), ([9, 3, 3], [3, 9]), ([5, 10, 3], [3, 5, 10]), ([3, 11], [3, 11])])
def lright__B1 : List Nat := [0, 1, 3, 7, 15, 31, 15, 79, 207, 463, 975, 2047, 4095]
theorem lright__tab1 : rtab .any (opsOf Try.f47 1) = lright__T1 := by kernel_rfl
theorem lright__bits1 : waitsOk lright__T1.2 lright__B1 = true := by kernel_rfl
theorem mayTick_fn (n : Int) (w : World) : Calls Try.prog 70 #[.int .i64 n] w fun e w' => e = .returned (.bool (decide (0 ≤ n ∧ n ≤ 1099511627776))) ∧ w' = w := by
  generalize hr : decide (0 ≤ n ∧ n ≤ 1099511627776) = r
  have HR := Aside0.mk hr
  clear hr
  go_enter Try.func70, Try.ntmps70
  by_cases h1 : 0 ≤ n
  · have HE := Aside0.mk (show decide (n ≤ 1099511627776) = r from by rw [← HR.out, decide_eq_decide]; omega)
    go_wp2_with fail
    go_ret
    exact ⟨congrArg (fun b => Ending.returned (Value.bool b)) HE.out, rfl⟩
  · have HE := Aside0.mk (show false = r from by rw [← HR.out, decide_eq_false (by omega)])
    go_wp2_with fail
    go_ret
    exact ⟨congrArg (fun b => Ending.returned (Value.bool b)) HE.out, rfl⟩
theorem mayKey_fn (n : Int) (w : World) : Calls Try.prog 71 #[.int .i64 n] w fun e w' => e = .returned (.bool (decide (1 ≤ n ∧ n ≤ 64))) ∧ w' = w := by
  generalize hr : decide (1 ≤ n ∧ n ≤ 64) = r
  have HR := Aside0.mk hr
  clear hr
  go_enter Try.func71, Try.ntmps71
  by_cases h1 : 1 ≤ n
  · have HE := Aside0.mk (show decide (n ≤ 64) = r from by rw [← HR.out, decide_eq_decide]; omega)
    go_wp2_with fail
    go_ret
    exact ⟨congrArg (fun b => Ending.returned (Value.bool b)) HE.out, rfl⟩
  · have HE := Aside0.mk (show false = r from by rw [← HR.out, decide_eq_false (by omega)])
    go_wp2_with fail
    go_ret
    exact ⟨congrArg (fun b => Ending.returned (Value.bool b)) HE.out, rfl⟩
theorem mayCost_fn (n : Int) (w : World) : Calls Try.prog 72 #[.int .i64 n] w fun e w' => e = .returned (.bool (decide (1 ≤ n ∧ n ≤ 1048576))) ∧ w' = w := by
  generalize hr : decide (1 ≤ n ∧ n ≤ 1048576) = r
  have HR := Aside0.mk hr
  clear hr
  go_enter Try.func72, Try.ntmps72
  by_cases h1 : 1 ≤ n
  · have HE := Aside0.mk (show decide (n ≤ 1048576) = r from by rw [← HR.out, decide_eq_decide]; omega)
    go_wp2_with fail
    go_ret
    exact ⟨congrArg (fun b => Ending.returned (Value.bool b)) HE.out, rfl⟩
  · have HE := Aside0.mk (show false = r from by rw [← HR.out, decide_eq_false (by omega)])
    go_wp2_with fail
    go_ret
    exact ⟨congrArg (fun b => Ending.returned (Value.bool b)) HE.out, rfl⟩
theorem mayVerdict_fn (n : Int) (w : World) : Calls Try.prog 73 #[.int .i64 n] w fun e w' => e = .returned (.bool (decide (0 ≤ n ∧ n ≤ 2))) ∧ w' = w := by
  generalize hr : decide (0 ≤ n ∧ n ≤ 2) = r
  have HR := Aside0.mk hr
  clear hr
  go_enter Try.func73, Try.ntmps73
  by_cases h1 : 0 ≤ n
  · have HE := Aside0.mk (show decide (n ≤ 2) = r from by rw [← HR.out, decide_eq_decide]; omega)
    go_wp2_with fail
    go_ret
    exact ⟨congrArg (fun b => Ending.returned (Value.bool b)) HE.out, rfl⟩
  · have HE := Aside0.mk (show false = r from by rw [← HR.out, decide_eq_false (by omega)])
    go_wp2_with fail
    go_ret
    exact ⟨congrArg (fun b => Ending.returned (Value.bool b)) HE.out, rfl⟩

theorem infoRec : (Try.prog.info? 49).map (·.size) = some 4 := by kernel_rfl
/-- What is wrong with a record. -/
def recE (t : Int) (key : ByteArray) (c v : Int) : Int := if 0 ≤ t ∧ t ≤ 1099511627776 then (if isKey key = true then (if 1 ≤ c ∧ c ≤ 1048576 then (if 0 ≤ v ∧ v ≤ 2 then 0 else 63) else 62) else 61) else 60
set_option maxRecDepth 100000 in
set_option maxHeartbeats 1000000 in
theorem recRight_fn (t : Int) (key : ByteArray) (c v : Int) (w : World) :
    Calls Try.prog 49 #[.agg #[.int .i64 t, .string key, .int .i64 c, .int .i64 v]] w fun e w' => e = .returned (.int .i64 (recE t key c v)) ∧ Below w.heap.size w w' := by
  have HB := Aside0.mk (show Below w.heap.size w (w.alloc (.cells #[.int .i64 t, .string key, .int .i64 c, .int .i64 v] 49 (0, 0))) from (Below.refl _ w).alloc (Nat.le_refl _) _)
  generalize hr : recE t key c v = r
  have HR := Aside0.mk hr
  clear hr
  have e1 : decide (0 ≤ t ∧ t ≤ 1099511627776) = true ∨ decide (0 ≤ t ∧ t ≤ 1099511627776) = false := by cases decide (0 ≤ t ∧ t ≤ 1099511627776) <;> simp
  have e2 : decide (1 ≤ (key.size : Int) ∧ (key.size : Int) ≤ 64) = true ∨ decide (1 ≤ (key.size : Int) ∧ (key.size : Int) ≤ 64) = false := by cases decide (1 ≤ (key.size : Int) ∧ (key.size : Int) ≤ 64) <;> simp
  have e3 : decide (1 ≤ c ∧ c ≤ 1048576) = true ∨ decide (1 ≤ c ∧ c ≤ 1048576) = false := by cases decide (1 ≤ c ∧ c ≤ 1048576) <;> simp
  have e4 : decide (0 ≤ v ∧ v ≤ 2) = true ∨ decide (0 ≤ v ∧ v ≤ 2) = false := by cases decide (0 ≤ v ∧ v ≤ 2) <;> simp
  have E2 := Aside0.mk e2
  have E3 := Aside0.mk e3
  have E4 := Aside0.mk e4
  clear e2 e3 e4
  go_enter Try.func49, Try.ntmps49
  go_wp2_with fail
  refine (mayTick_fn t _).mono ?_
  rintro e w1 ⟨rfl, hw⟩
  rw [hw]
  clear hw w1
  rcases e1 with e1 | e1 <;> rw [e1]
  case inr =>
    have HE := Aside0.mk (show (60 : Int) = r from by rw [← HR.out, recE, if_neg (of_decide_eq_false e1)])
    clear e1
    go_wp2_with fail
    go_ret
    exact ⟨congrArg (fun b => Ending.returned (Value.int .i64 b)) HE.out, HB.out⟩
  have D1 := Aside0.mk (of_decide_eq_true e1)
  clear e1
  have e2 := E2.out
  clear E2
  go_wp2_with fail
  refine (mayKey_fn key.size _).mono ?_
  rintro e w1 ⟨rfl, hw⟩
  rw [hw]
  clear hw w1
  rcases e2 with e2 | e2 <;> rw [e2]
  case inr =>
    have HE := Aside0.mk (show (61 : Int) = r from by rw [← HR.out, recE, if_pos D1.out, if_neg (fun h => of_decide_eq_false e2 (by unfold isKey at h; rw [decide_eq_true_iff] at h; omega))])
    clear e2
    go_wp2_with fail
    go_ret
    exact ⟨congrArg (fun b => Ending.returned (Value.int .i64 b)) HE.out, HB.out⟩
  have D2 := Aside0.mk (show isKey key = true from by unfold isKey; have := of_decide_eq_true e2; rw [decide_eq_true_iff]; omega)
  clear e2
  have e3 := E3.out
  clear E3
  go_wp2_with fail
  refine (mayCost_fn c _).mono ?_
  rintro e w1 ⟨rfl, hw⟩
  rw [hw]
  clear hw w1
  rcases e3 with e3 | e3 <;> rw [e3]
  case inr =>
    have HE := Aside0.mk (show (62 : Int) = r from by rw [← HR.out, recE, if_pos D1.out, if_pos D2.out, if_neg (of_decide_eq_false e3)])
    clear e3
    go_wp2_with fail
    go_ret
    exact ⟨congrArg (fun b => Ending.returned (Value.int .i64 b)) HE.out, HB.out⟩
  have D3 := Aside0.mk (of_decide_eq_true e3)
  clear e3
  have e4 := E4.out
  clear E4
  go_wp2_with fail
  refine (mayVerdict_fn v _).mono ?_
  rintro e w1 ⟨rfl, hw⟩
  rw [hw]
  clear hw w1
  rcases e4 with e4 | e4 <;> rw [e4]
  case inr =>
    have HE := Aside0.mk (show (63 : Int) = r from by rw [← HR.out, recE, if_pos D1.out, if_pos D2.out, if_pos D3.out, if_neg (of_decide_eq_false e4)])
    clear e4
    go_wp2_with fail
    go_ret
    exact ⟨congrArg (fun b => Ending.returned (Value.int .i64 b)) HE.out, HB.out⟩
  have HE := Aside0.mk (show (0 : Int) = r from by rw [← HR.out, recE, if_pos D1.out, if_pos D2.out, if_pos D3.out, if_pos (of_decide_eq_true e4)])
  clear e4
  go_wp2_with fail
  go_ret
  exact ⟨congrArg (fun b => Ending.returned (Value.int .i64 b)) HE.out, HB.out⟩

/-- A limiter in memory. -/
structure Lim (w : World) (lb sb mb : Nat) (p : Pol) (tick : Int) (rows : Rws) : Prop where
  top : w.heap[lb]? = some (.cells #[.pointer (some ⟨sb, 0, none⟩), .int .i64 p.keys] 54 (0, 0))
  led : Led w sb mb p tick rows
theorem Lim.below {w w' : World} {lb sb mb : Nat} {p : Pol} {tick : Int} {rows : Rws} (h : Lim w lb sb mb p tick rows) (hb : Below w.heap.size w w') : Lim w' lb sb mb p tick rows :=
  ⟨(hb.block _ (Array.getElem?_eq_some_iff.1 h.top).1).trans h.top, h.led.below hb⟩
theorem Lim.ne_sb {w : World} {lb sb mb : Nat} {p : Pol} {tick : Int} {rows : Rws} (h : Lim w lb sb mb p tick rows) : lb ≠ sb := fun e => by
  have h1 := h.top
  have h2 := h.led.blk
  rw [e, h2] at h1
  injection h1 with h1
  injection h1 with _ h1
  exact absurd h1 (by decide)
theorem Lim.ne_mb {w : World} {lb sb mb : Nat} {p : Pol} {tick : Int} {rows : Rws} (h : Lim w lb sb mb p tick rows) : lb ≠ mb := fun e => by
  have h1 := h.top
  obtain ⟨D, hown, hD⟩ := h.led.map
  obtain ⟨es, clock, hm⟩ := owns_block hown
  rw [e, hm] at h1
  cases h1
theorem Lim.led' {w w' : World} {lb sb mb : Nat} {p : Pol} {tick tick' : Int} {rows rows' : Rws} (h : Lim w lb sb mb p tick rows) (hl : Led w' sb mb p tick' rows') (hk : Keeps (fun k => k = sb ∨ k = mb) w w') : Lim w' lb sb mb p tick' rows' :=
  ⟨(hk.block _ (Array.getElem?_eq_some_iff.1 h.top).1 (fun e => by rcases e with e | e; exact h.ne_sb e; exact h.ne_mb e)).trans h.top, hl⟩
theorem Lim.keeps {w w' : World} {lb sb mb : Nat} {p : Pol} {tick : Int} {rows : Rws} {ex : Nat → Prop} (h : Lim w lb sb mb p tick rows) (hk : Keeps ex w w') (h1 : ¬ ex lb) (h2 : ¬ ex sb) (h3 : ¬ ex mb) (hl : Led w' sb mb p tick rows) : Lim w' lb sb mb p tick rows :=
  ⟨(hk.block _ (Array.getElem?_eq_some_iff.1 h.top).1 h1).trans h.top, hl⟩

/-- What limiter.New answers. -/
def NewLPost (w : World) (p : Pol) (er : Int) (e : Ending) (w' : World) : Prop :=
  (er = 0 ∧ ∃ lb sb mb, e = .returned (.tuple #[.pointer (some ⟨lb, 0, none⟩), .int .i64 0]) ∧ w.heap.size ≤ lb ∧ w.heap.size ≤ sb ∧ w.heap.size ≤ mb ∧ Lim w' lb sb mb p 0 [] ∧ Below w.heap.size w w') ∨
  (er ≠ 0 ∧ e = .returned (.tuple #[.pointer none, .int .i64 er]) ∧ Below w.heap.size w w')

set_option maxRecDepth 100000 in
set_option maxHeartbeats 1000000 in
theorem NewL_fn (w : World) (p : Pol) :
    Calls Try.prog 26 #[p.val] w (NewLPost w p p.E) := by
  have HNEW := Aside0.mk (fun w' => New_fn w' p)
  have HLM := Aside0.mk (fun (W : World) (lb sb mb : Nat) (h1 : W.heap[lb]? = some (.cells #[.pointer (some ⟨sb, 0, none⟩), .int .i64 p.keys] 54 (0, 0))) (h2 : Led W sb mb p 0 []) => Lim.mk h1 h2)
  have HG := Aside0.mk (heap_alloc_new w (.cells p.cells 23 (0, 0)))
  have HB := Aside0.mk (show Below w.heap.size w (w.alloc (.cells p.cells 23 (0, 0))) from (Below.refl _ w).alloc (Nat.le_refl _) _)
  generalize p.E = er at HNEW ⊢
  unfold NewPost at HNEW
  generalize hLed : (fun W sb mb => Led W sb mb p 0 []) = LED at HNEW HLM
  have HL0 := Aside0.mk (fun W sb mb => (congrFun (congrFun (congrFun hLed W) sb) mb))
  clear hLed
  obtain ⟨kind, cap, num, den, width, count, keys, slots, every, seg⟩ := p
  simp only [Pol.val, Pol.cells] at HNEW HG HB ⊢
  go_enter Try.func26, Try.ntmps26
  go_wp2_with (first | ((with_reducible refine gload 23 rfl ?_); refine wpList_load_blk rfl 23 _ rfl w.heap.size _ 23 _ rfl HG.out _ Try.underlying23 rfl infoPol ?_) | fail)
  refine (HNEW.out _).mono ?_
  rintro e w1 (⟨h0, sb, mb, rfl, hs1, hs2, hled, hb1⟩ | ⟨h0, rfl, hb1⟩)
  · subst h0
    have HB1 := Aside0.mk (HB.out.trans (hb1.mono (by simp)))
    have HG1 := (hb1.block _ (by simp)).trans HG.out
    have c6 : w1.cell? ⟨w.heap.size, 6, none⟩ = some (.int .i64 keys) := by rw [cell_of_row w1 _ 6 _ _ _ HG1]; rfl
    have HLED := Aside0.mk hled
    have HS := Aside0.mk (And.intro hs1 hs2)
    clear hb1 HG HB HNEW HG1 hled hs1 hs2
    go_wp2_with fail
    refine ⟨rfl, _, results_tmp2 rfl _ _ _, Or.inl ⟨rfl, w1.heap.size, sb, mb, rfl, HB1.out.size, ?_, ?_, HLM.out _ _ _ _ ?_ (HLED.out.below ?_), ?_⟩⟩
    · have := HS.out.1; simp at this; omega
    · have := HS.out.2; simp at this; omega
    · exact heap_alloc_new w1 _
    · exact (Below.refl _ w1).alloc (Nat.le_refl _) _
    · exact HB1.out.trans (((Below.refl _ w1).alloc (Nat.le_refl _) _).mono HB1.out.size)
  · have HB1 := Aside0.mk (HB.out.trans (hb1.mono (by simp)))
    clear hb1 HG HB HNEW
    go_wp2_with fail
    exact ⟨rfl, _, results_tmp2 rfl _ _ _, Or.inr ⟨h0, rfl, HB1.out⟩⟩

/-- What a limiter refuses. -/
def rightE (now t : Int) (key : ByteArray) (c v : Int) : Int := if 0 ≤ t ∧ t < now then 60 else recE t key c v
set_option maxRecDepth 100000 in
set_option maxHeartbeats 1000000 in
theorem rightL_fn (w : World) (lb sb mb : Nat) (p : Pol) (now : Int) (rows : Rws) (t : Int) (key : ByteArray) (c v : Int) (h : Lim w lb sb mb p now rows) :
    Calls Try.prog 47 #[.pointer (some ⟨lb, 0, none⟩), .agg #[.int .i64 t, .string key, .int .i64 c, .int .i64 v]] w fun e w' => e = .returned (.int .i64 (rightE now t key c v)) ∧ Below w.heap.size w w' := by
  have hb0 : Below w.heap.size w (w.alloc (.cells #[.int .i64 t, .string key, .int .i64 c, .int .i64 v] 49 (0, 0))) := (Below.refl _ w).alloc (Nat.le_refl _) _
  have HS0 := Aside0.mk ((HeldB.one (x := (w.heap.size, Obj.cells #[.int .i64 t, .string key, .int .i64 c, .int .i64 v] 49 (0, 0))) (heap_alloc_new w (.cells #[.int .i64 t, .string key, .int .i64 c, .int .i64 v] 49 (0, 0))) hb0).more (x := (lb, .cells #[.pointer (some ⟨sb, 0, none⟩), .int .i64 p.keys] 54 (0, 0))) ((hb0.block _ (Array.getElem?_eq_some_iff.1 h.top).1).trans h.top))
  have HNOW := Aside0.mk (fun w' (hb : Below w.heap.size w w') => Now_fn w' sb mb p now rows (h.led.below hb))
  have HREC := Aside0.mk (fun w' => recRight_fn t key c v w')
  generalize hr : rightE now t key c v = r
  have HR := Aside0.mk hr
  generalize hr2 : recE t key c v = r2 at HREC
  have HR2 := Aside0.mk hr2
  generalize p.keys = keys at HS0
  clear h hr hr2 hb0
  by_cases h0 : 0 ≤ t
  · by_cases h1 : t < now
    · have HE := Aside0.mk (show (60 : Int) = r from by rw [← HR.out, rightE, if_pos ⟨h0, h1⟩])
      go_enter Try.func47, Try.ntmps47
      go_wp2_with fail
      refine start_ (n := 13) (S := HeldB w [(lb, .cells #[.pointer (some ⟨sb, 0, none⟩), .int .i64 keys] 54 (0, 0)), (w.heap.size, .cells #[.int .i64 t, .string key, .int .i64 c, .int .i64 v] 49 (0, 0))]) (ds := []) #[false, false, false, false, false, false, false, false, false, false, false, false, false] (by kernel_rfl) rfl rfl (HS0.out.drew) (fun hHeld => ?_); refine with_tabW lright__tab1 lright__bits1 (fun HT_ HW_ => ?_)
      refine pure_ (i := 0) (N := some 5) (v := ?_) (a' := ?_) #[true, false, false, false, false, false, false, false, false, false, false, false, false] rfl rfl (any_of HT_.out (by kernel_rfl)) (fun _ _ _ h => h) (Or.inl ⟨by rfl, ?_⟩) ?_ ?_
      rotate_left
      · intro w'
        go_simp
        try with_reducible rfl
      rotate_left
      · simp only [Act.put, List.setIfInBounds_toArray, List.set_cons_zero, List.set_cons_succ]
        rfl
      refine take_ (i := 1) (N := some 6) (v := ?_) (a' := ?_) #[true, true, false, false, false, false, false, false, false, false, false, false, false] rfl rfl (take_ofW HT_.out HW_.out (by kernel_rfl)) (fun _ _ _ h => h) (Or.inl ⟨by rfl, ?_⟩) hHeld ?_ ?_
      rotate_left
      · intro w' hS'
        have hx := hS'.1 (w.heap.size, .cells #[.int .i64 t, .string key, .int .i64 c, .int .i64 v] 49 (0, 0)) (by simp)
        have c0 : w'.cell? ⟨w.heap.size, 0, none⟩ = some (.int .i64 t) := by rw [cell_of_row w' _ 0 _ _ _ hx]; rfl
        go_simp
        try with_reducible rfl
      rotate_left
      · simp only [Act.put, List.setIfInBounds_toArray, List.set_cons_zero, List.set_cons_succ]
        rfl
      refine pure_ (i := 2) (N := some 7) (v := ?_) (a' := ?_) #[true, true, true, false, false, false, false, false, false, false, false, false, false] rfl rfl (any_of HT_.out (by kernel_rfl)) (fun _ _ _ h => h) (Or.inl ⟨by rfl, ?_⟩) ?_ ?_
      rotate_left
      · intro w'
        go_simp
        try with_reducible rfl
      rotate_left
      · simp only [Act.put, List.setIfInBounds_toArray, List.set_cons_zero, List.set_cons_succ]
        rfl
      refine pure_ (i := 3) (N := some 8) (v := ?_) (a' := ?_) #[true, true, true, true, false, false, false, false, false, false, false, false, false] rfl rfl (any_of HT_.out (by kernel_rfl)) (fun _ _ _ h => h) (Or.inl ⟨by rfl, ?_⟩) ?_ ?_
      rotate_left
      · intro w'
        go_simp
        try with_reducible rfl
      rotate_left
      · simp only [Act.put, List.setIfInBounds_toArray, List.set_cons_zero, List.set_cons_succ]
        rfl
      refine pure_ (i := 4) (N := some 9) (v := ?_) (a' := ?_) #[true, true, true, true, true, false, false, false, false, false, false, false, false] rfl rfl (any_of HT_.out (by kernel_rfl)) (fun _ _ _ h => h) (Or.inl ⟨by rfl, ?_⟩) ?_ ?_
      rotate_left
      · intro w'
        go_simp
        try with_reducible rfl
      rotate_left
      · simp only [Act.put, List.setIfInBounds_toArray, List.set_cons_zero, List.set_cons_succ]
        rfl
      refine pure_ (i := 6) (N := some 11) (v := ?_) (a' := ?_) #[true, true, true, true, true, false, true, false, false, false, false, false, false] rfl rfl (any_of HT_.out (by kernel_rfl)) (fun _ _ _ h => h) (Or.inl ⟨by rfl, ?_⟩) ?_ ?_
      rotate_left
      · intro w'
        go_simp
        try with_reducible rfl
      rotate_left
      · simp only [Act.put, List.setIfInBounds_toArray, List.set_cons_zero, List.set_cons_succ]
        rfl
      refine pure_ (i := 7) (N := some 12) (v := ?_) (a' := ?_) #[true, true, true, true, true, false, true, true, false, false, false, false, false] rfl rfl (any_of HT_.out (by kernel_rfl)) (fun _ _ _ h => h) (Or.inl ⟨by rfl, ?_⟩) ?_ ?_
      rotate_left
      · intro w'
        go_simp
        try with_reducible rfl
      rotate_left
      · simp only [Act.put, List.setIfInBounds_toArray, List.set_cons_zero, List.set_cons_succ]
        rfl
      refine pure_ (i := 8) (N := some 13) (v := ?_) (a' := ?_) #[true, true, true, true, true, false, true, true, true, false, false, false, false] rfl rfl (any_of HT_.out (by kernel_rfl)) (fun _ _ _ h => h) (Or.inl ⟨by rfl, ?_⟩) ?_ ?_
      rotate_left
      · intro w'
        go_simp
        try with_reducible rfl
      rotate_left
      · simp only [Act.put, List.setIfInBounds_toArray, List.set_cons_zero, List.set_cons_succ]
        rfl
      refine take_ (i := 5) (N := some 10) (v := ?_) (a' := ?_) #[true, true, true, true, true, true, true, true, true, false, false, false, false] rfl rfl (take_ofW HT_.out HW_.out (by kernel_rfl)) (fun _ _ _ h => h) (Or.inl ⟨by rfl, ?_⟩) hHeld ?_ ?_
      rotate_left
      · intro w' hS'
        have hx := hS'.1 (w.heap.size, .cells #[.int .i64 t, .string key, .int .i64 c, .int .i64 v] 49 (0, 0)) (by simp)
        have c0 : w'.cell? ⟨w.heap.size, 0, none⟩ = some (.int .i64 t) := by rw [cell_of_row w' _ 0 _ _ _ hx]; rfl
        go_simp
        try with_reducible rfl
      rotate_left
      · simp only [Act.put, List.setIfInBounds_toArray, List.set_cons_zero, List.set_cons_succ]
        rfl
      refine take_ (i := 9) (N := some 14) (v := ?_) (a' := ?_) #[true, true, true, true, true, true, true, true, true, true, false, false, false] rfl rfl (take_ofW HT_.out HW_.out (by kernel_rfl)) (fun _ _ _ h => h) (Or.inl ⟨by rfl, ?_⟩) hHeld ?_ ?_
      rotate_left
      · intro w' hS'
        have hx := hS'.1 (lb, .cells #[.pointer (some ⟨sb, 0, none⟩), .int .i64 keys] 54 (0, 0)) (by simp)
        have c0 : w'.cell? ⟨lb, 0, none⟩ = some (.pointer (some ⟨sb, 0, none⟩)) := by rw [cell_of_row w' _ 0 _ _ _ hx]; rfl
        go_simp
        try with_reducible rfl
      rotate_left
      · simp only [Act.put, List.setIfInBounds_toArray, List.set_cons_zero, List.set_cons_succ]
        rfl
      refine one_ (i := 10) (N := some 15) #[true, true, true, true, true, true, true, true, true, true, true, false, false] rfl rfl (one_of HT_.out (by kernel_rfl)) (by decide) (fun K hK => ?_)
      refine goes_ Try.func17 (by kernel_rfl) rfl #[.pointer (some ⟨sb, 0, none⟩)] (by rfl) rfl rfl (by simp [Act.eval]) ?_
      refine (HNOW.out _ hHeld.2).mono ?_
      rintro e w1 ⟨rfl, hw1⟩
      refine ⟨_, rfl, ?_⟩
      simp only [Act.put, List.setIfInBounds_toArray, List.set_cons_zero, List.set_cons_succ]
      rw [hw1]
      clear hw1 w1
      refine hK.out _ _ (hHeld) (fun hHeld => ?_)
      clear hK K
      refine pure_ (i := 11) (N := some 16) (v := ?_) (a' := ?_) #[true, true, true, true, true, true, true, true, true, true, true, true, false] rfl rfl (any_of HT_.out (by kernel_rfl)) (fun _ _ _ h => h) (Or.inl ⟨by rfl, ?_⟩) ?_ ?_
      rotate_left
      · intro w'
        go_simp
        try with_reducible rfl
      rotate_left
      · simp only [Act.put, List.setIfInBounds_toArray, List.set_cons_zero, List.set_cons_succ]
        rfl
      refine pure_ (i := 12) (N := some 17) (v := ?_) (a' := ?_) #[true, true, true, true, true, true, true, true, true, true, true, true, true] rfl rfl (any_of HT_.out (by kernel_rfl)) (fun _ _ _ h => h) (Or.inl ⟨by rfl, ?_⟩) ?_ ?_
      rotate_left
      · intro w'
        go_simp
        try with_reducible rfl
      rotate_left
      · simp only [Act.put, List.setIfInBounds_toArray, List.set_cons_zero, List.set_cons_succ]
        rfl
      refine done_ (done_of HT_.out (by kernel_rfl)) ?_
      have HS1 := Aside0.mk hHeld
      clear hHeld HT_ HW_
      go_wp2_with fail
      go_ret
      exact ⟨congrArg (fun b => Ending.returned (Value.int .i64 b)) HE.out, HS1.out.2⟩
    · have HE := Aside0.mk (show r2 = r from by rw [← HR.out, rightE, if_neg (fun h => h1 h.2), HR2.out])
      go_enter Try.func47, Try.ntmps47
      go_wp2_with fail
      refine start_ (n := 13) (S := HeldB w [(lb, .cells #[.pointer (some ⟨sb, 0, none⟩), .int .i64 keys] 54 (0, 0)), (w.heap.size, .cells #[.int .i64 t, .string key, .int .i64 c, .int .i64 v] 49 (0, 0))]) (ds := []) #[false, false, false, false, false, false, false, false, false, false, false, false, false] (by kernel_rfl) rfl rfl (HS0.out.drew) (fun hHeld => ?_); refine with_tabW lright__tab1 lright__bits1 (fun HT_ HW_ => ?_)
      refine pure_ (i := 0) (N := some 5) (v := ?_) (a' := ?_) #[true, false, false, false, false, false, false, false, false, false, false, false, false] rfl rfl (any_of HT_.out (by kernel_rfl)) (fun _ _ _ h => h) (Or.inl ⟨by rfl, ?_⟩) ?_ ?_
      rotate_left
      · intro w'
        go_simp
        try with_reducible rfl
      rotate_left
      · simp only [Act.put, List.setIfInBounds_toArray, List.set_cons_zero, List.set_cons_succ]
        rfl
      refine take_ (i := 1) (N := some 6) (v := ?_) (a' := ?_) #[true, true, false, false, false, false, false, false, false, false, false, false, false] rfl rfl (take_ofW HT_.out HW_.out (by kernel_rfl)) (fun _ _ _ h => h) (Or.inl ⟨by rfl, ?_⟩) hHeld ?_ ?_
      rotate_left
      · intro w' hS'
        have hx := hS'.1 (w.heap.size, .cells #[.int .i64 t, .string key, .int .i64 c, .int .i64 v] 49 (0, 0)) (by simp)
        have c0 : w'.cell? ⟨w.heap.size, 0, none⟩ = some (.int .i64 t) := by rw [cell_of_row w' _ 0 _ _ _ hx]; rfl
        go_simp
        try with_reducible rfl
      rotate_left
      · simp only [Act.put, List.setIfInBounds_toArray, List.set_cons_zero, List.set_cons_succ]
        rfl
      refine pure_ (i := 2) (N := some 7) (v := ?_) (a' := ?_) #[true, true, true, false, false, false, false, false, false, false, false, false, false] rfl rfl (any_of HT_.out (by kernel_rfl)) (fun _ _ _ h => h) (Or.inl ⟨by rfl, ?_⟩) ?_ ?_
      rotate_left
      · intro w'
        go_simp
        try with_reducible rfl
      rotate_left
      · simp only [Act.put, List.setIfInBounds_toArray, List.set_cons_zero, List.set_cons_succ]
        rfl
      refine pure_ (i := 3) (N := some 8) (v := ?_) (a' := ?_) #[true, true, true, true, false, false, false, false, false, false, false, false, false] rfl rfl (any_of HT_.out (by kernel_rfl)) (fun _ _ _ h => h) (Or.inl ⟨by rfl, ?_⟩) ?_ ?_
      rotate_left
      · intro w'
        go_simp
        try with_reducible rfl
      rotate_left
      · simp only [Act.put, List.setIfInBounds_toArray, List.set_cons_zero, List.set_cons_succ]
        rfl
      refine pure_ (i := 4) (N := some 9) (v := ?_) (a' := ?_) #[true, true, true, true, true, false, false, false, false, false, false, false, false] rfl rfl (any_of HT_.out (by kernel_rfl)) (fun _ _ _ h => h) (Or.inl ⟨by rfl, ?_⟩) ?_ ?_
      rotate_left
      · intro w'
        go_simp
        try with_reducible rfl
      rotate_left
      · simp only [Act.put, List.setIfInBounds_toArray, List.set_cons_zero, List.set_cons_succ]
        rfl
      refine pure_ (i := 6) (N := some 11) (v := ?_) (a' := ?_) #[true, true, true, true, true, false, true, false, false, false, false, false, false] rfl rfl (any_of HT_.out (by kernel_rfl)) (fun _ _ _ h => h) (Or.inl ⟨by rfl, ?_⟩) ?_ ?_
      rotate_left
      · intro w'
        go_simp
        try with_reducible rfl
      rotate_left
      · simp only [Act.put, List.setIfInBounds_toArray, List.set_cons_zero, List.set_cons_succ]
        rfl
      refine pure_ (i := 7) (N := some 12) (v := ?_) (a' := ?_) #[true, true, true, true, true, false, true, true, false, false, false, false, false] rfl rfl (any_of HT_.out (by kernel_rfl)) (fun _ _ _ h => h) (Or.inl ⟨by rfl, ?_⟩) ?_ ?_
      rotate_left
      · intro w'
        go_simp
        try with_reducible rfl
      rotate_left
      · simp only [Act.put, List.setIfInBounds_toArray, List.set_cons_zero, List.set_cons_succ]
        rfl
      refine pure_ (i := 8) (N := some 13) (v := ?_) (a' := ?_) #[true, true, true, true, true, false, true, true, true, false, false, false, false] rfl rfl (any_of HT_.out (by kernel_rfl)) (fun _ _ _ h => h) (Or.inl ⟨by rfl, ?_⟩) ?_ ?_
      rotate_left
      · intro w'
        go_simp
        try with_reducible rfl
      rotate_left
      · simp only [Act.put, List.setIfInBounds_toArray, List.set_cons_zero, List.set_cons_succ]
        rfl
      refine take_ (i := 5) (N := some 10) (v := ?_) (a' := ?_) #[true, true, true, true, true, true, true, true, true, false, false, false, false] rfl rfl (take_ofW HT_.out HW_.out (by kernel_rfl)) (fun _ _ _ h => h) (Or.inl ⟨by rfl, ?_⟩) hHeld ?_ ?_
      rotate_left
      · intro w' hS'
        have hx := hS'.1 (w.heap.size, .cells #[.int .i64 t, .string key, .int .i64 c, .int .i64 v] 49 (0, 0)) (by simp)
        have c0 : w'.cell? ⟨w.heap.size, 0, none⟩ = some (.int .i64 t) := by rw [cell_of_row w' _ 0 _ _ _ hx]; rfl
        go_simp
        try with_reducible rfl
      rotate_left
      · simp only [Act.put, List.setIfInBounds_toArray, List.set_cons_zero, List.set_cons_succ]
        rfl
      refine take_ (i := 9) (N := some 14) (v := ?_) (a' := ?_) #[true, true, true, true, true, true, true, true, true, true, false, false, false] rfl rfl (take_ofW HT_.out HW_.out (by kernel_rfl)) (fun _ _ _ h => h) (Or.inl ⟨by rfl, ?_⟩) hHeld ?_ ?_
      rotate_left
      · intro w' hS'
        have hx := hS'.1 (lb, .cells #[.pointer (some ⟨sb, 0, none⟩), .int .i64 keys] 54 (0, 0)) (by simp)
        have c0 : w'.cell? ⟨lb, 0, none⟩ = some (.pointer (some ⟨sb, 0, none⟩)) := by rw [cell_of_row w' _ 0 _ _ _ hx]; rfl
        go_simp
        try with_reducible rfl
      rotate_left
      · simp only [Act.put, List.setIfInBounds_toArray, List.set_cons_zero, List.set_cons_succ]
        rfl
      refine one_ (i := 10) (N := some 15) #[true, true, true, true, true, true, true, true, true, true, true, false, false] rfl rfl (one_of HT_.out (by kernel_rfl)) (by decide) (fun K hK => ?_)
      refine goes_ Try.func17 (by kernel_rfl) rfl #[.pointer (some ⟨sb, 0, none⟩)] (by rfl) rfl rfl (by simp [Act.eval]) ?_
      refine (HNOW.out _ hHeld.2).mono ?_
      rintro e w1 ⟨rfl, hw1⟩
      refine ⟨_, rfl, ?_⟩
      simp only [Act.put, List.setIfInBounds_toArray, List.set_cons_zero, List.set_cons_succ]
      rw [hw1]
      clear hw1 w1
      refine hK.out _ _ (hHeld) (fun hHeld => ?_)
      clear hK K
      refine pure_ (i := 11) (N := some 16) (v := ?_) (a' := ?_) #[true, true, true, true, true, true, true, true, true, true, true, true, false] rfl rfl (any_of HT_.out (by kernel_rfl)) (fun _ _ _ h => h) (Or.inl ⟨by rfl, ?_⟩) ?_ ?_
      rotate_left
      · intro w'
        go_simp
        try with_reducible rfl
      rotate_left
      · simp only [Act.put, List.setIfInBounds_toArray, List.set_cons_zero, List.set_cons_succ]
        rfl
      refine pure_ (i := 12) (N := some 17) (v := ?_) (a' := ?_) #[true, true, true, true, true, true, true, true, true, true, true, true, true] rfl rfl (any_of HT_.out (by kernel_rfl)) (fun _ _ _ h => h) (Or.inl ⟨by rfl, ?_⟩) ?_ ?_
      rotate_left
      · intro w'
        go_simp
        try with_reducible rfl
      rotate_left
      · simp only [Act.put, List.setIfInBounds_toArray, List.set_cons_zero, List.set_cons_succ]
        rfl
      refine done_ (done_of HT_.out (by kernel_rfl)) ?_
      have HS1 := Aside0.mk hHeld
      clear hHeld HT_ HW_
      have HG1 := Aside0.mk (HS1.out.1 (w.heap.size, .cells #[.int .i64 t, .string key, .int .i64 c, .int .i64 v] 49 (0, 0)) (by simp))
      go_wp2_with (first | ((with_reducible refine gload 49 rfl ?_); refine wpList_load_blk rfl 49 _ rfl w.heap.size _ 49 _ rfl HG1.out _ Try.underlying49 rfl infoRec ?_) | fail)
      refine (HREC.out _).mono ?_
      rintro e w2 ⟨rfl, hb2⟩
      have HB2 := Aside0.mk (HS1.out.step hb2).2
      clear hb2 HS1
      go_wp2_with fail
      go_ret
      exact ⟨congrArg (fun b => Ending.returned (Value.int .i64 b)) HE.out, HB2.out⟩
  · have HE := Aside0.mk (show r2 = r from by rw [← HR.out, rightE, if_neg (fun h => h0 h.1), HR2.out])
    go_enter Try.func47, Try.ntmps47
    go_wp2_with fail
    refine start_ (n := 13) (S := HeldB w [(lb, .cells #[.pointer (some ⟨sb, 0, none⟩), .int .i64 keys] 54 (0, 0)), (w.heap.size, .cells #[.int .i64 t, .string key, .int .i64 c, .int .i64 v] 49 (0, 0))]) (ds := []) #[false, false, false, false, false, false, false, false, false, false, false, false, false] (by kernel_rfl) rfl rfl (HS0.out.drew) (fun hHeld => ?_); refine with_tabW lright__tab1 lright__bits1 (fun HT_ HW_ => ?_)
    refine pure_ (i := 0) (N := some 5) (v := ?_) (a' := ?_) #[true, false, false, false, false, false, false, false, false, false, false, false, false] rfl rfl (any_of HT_.out (by kernel_rfl)) (fun _ _ _ h => h) (Or.inl ⟨by rfl, ?_⟩) ?_ ?_
    rotate_left
    · intro w'
      go_simp
      try with_reducible rfl
    rotate_left
    · simp only [Act.put, List.setIfInBounds_toArray, List.set_cons_zero, List.set_cons_succ]
      rfl
    refine take_ (i := 1) (N := some 6) (v := ?_) (a' := ?_) #[true, true, false, false, false, false, false, false, false, false, false, false, false] rfl rfl (take_ofW HT_.out HW_.out (by kernel_rfl)) (fun _ _ _ h => h) (Or.inl ⟨by rfl, ?_⟩) hHeld ?_ ?_
    rotate_left
    · intro w' hS'
      have hx := hS'.1 (w.heap.size, .cells #[.int .i64 t, .string key, .int .i64 c, .int .i64 v] 49 (0, 0)) (by simp)
      have c0 : w'.cell? ⟨w.heap.size, 0, none⟩ = some (.int .i64 t) := by rw [cell_of_row w' _ 0 _ _ _ hx]; rfl
      go_simp
      try with_reducible rfl
    rotate_left
    · simp only [Act.put, List.setIfInBounds_toArray, List.set_cons_zero, List.set_cons_succ]
      rfl
    refine pure_ (i := 2) (N := some 7) (v := ?_) (a' := ?_) #[true, true, true, false, false, false, false, false, false, false, false, false, false] rfl rfl (any_of HT_.out (by kernel_rfl)) (fun _ _ _ h => h) (Or.inl ⟨by rfl, ?_⟩) ?_ ?_
    rotate_left
    · intro w'
      go_simp
      try with_reducible rfl
    rotate_left
    · simp only [Act.put, List.setIfInBounds_toArray, List.set_cons_zero, List.set_cons_succ]
      rfl
    rw [show decide (0 ≤ t) = false from decide_eq_false (by omega)]
    refine pure_ (i := 3) (N := some 8) (v := ?_) (a' := ?_) #[true, true, true, true, false, false, false, false, false, false, false, false, false] rfl rfl (any_of HT_.out (by kernel_rfl)) (fun _ _ _ h => h) (Or.inl ⟨by rfl, ?_⟩) ?_ ?_
    rotate_left
    · intro w'
      go_simp
      try with_reducible rfl
    rotate_left
    · simp only [Act.put, List.setIfInBounds_toArray, List.set_cons_zero, List.set_cons_succ]
      rfl
    refine pure_ (i := 4) (N := some 9) (v := undef) (a' := ?_) #[true, true, true, true, true, false, false, false, false, false, false, false, false] rfl rfl (any_of HT_.out (by kernel_rfl)) (fun _ _ _ h => h) (Or.inr ⟨by rfl, rfl⟩) ?_ ?_
    rotate_left
    · simp only [Act.put, List.setIfInBounds_toArray, List.set_cons_zero, List.set_cons_succ]
      rfl
    refine pure_ (i := 6) (N := some 11) (v := undef) (a' := ?_) #[true, true, true, true, true, false, true, false, false, false, false, false, false] rfl rfl (any_of HT_.out (by kernel_rfl)) (fun _ _ _ h => h) (Or.inr ⟨by rfl, rfl⟩) ?_ ?_
    rotate_left
    · simp only [Act.put, List.setIfInBounds_toArray, List.set_cons_zero, List.set_cons_succ]
      rfl
    refine pure_ (i := 5) (N := some 10) (v := undef) (a' := ?_) #[true, true, true, true, true, true, true, false, false, false, false, false, false] rfl rfl (any_of HT_.out (by kernel_rfl)) (fun _ _ _ h => h) (Or.inr ⟨by rfl, rfl⟩) ?_ ?_
    rotate_left
    · simp only [Act.put, List.setIfInBounds_toArray, List.set_cons_zero, List.set_cons_succ]
      rfl
    refine pure_ (i := 7) (N := some 12) (v := undef) (a' := ?_) #[true, true, true, true, true, true, true, true, false, false, false, false, false] rfl rfl (any_of HT_.out (by kernel_rfl)) (fun _ _ _ h => h) (Or.inr ⟨by rfl, rfl⟩) ?_ ?_
    rotate_left
    · simp only [Act.put, List.setIfInBounds_toArray, List.set_cons_zero, List.set_cons_succ]
      rfl
    refine pure_ (i := 8) (N := some 13) (v := undef) (a' := ?_) #[true, true, true, true, true, true, true, true, true, false, false, false, false] rfl rfl (any_of HT_.out (by kernel_rfl)) (fun _ _ _ h => h) (Or.inr ⟨by rfl, rfl⟩) ?_ ?_
    rotate_left
    · simp only [Act.put, List.setIfInBounds_toArray, List.set_cons_zero, List.set_cons_succ]
      rfl
    refine pure_ (i := 9) (N := some 14) (v := undef) (a' := ?_) #[true, true, true, true, true, true, true, true, true, true, false, false, false] rfl rfl (any_of HT_.out (by kernel_rfl)) (fun _ _ _ h => h) (Or.inr ⟨by rfl, rfl⟩) ?_ ?_
    rotate_left
    · simp only [Act.put, List.setIfInBounds_toArray, List.set_cons_zero, List.set_cons_succ]
      rfl
    refine pure_ (i := 10) (N := some 15) (v := undef) (a' := ?_) #[true, true, true, true, true, true, true, true, true, true, true, false, false] rfl rfl (any_of HT_.out (by kernel_rfl)) (fun _ _ _ h => h) (Or.inr ⟨by rfl, rfl⟩) ?_ ?_
    rotate_left
    · simp only [Act.put, List.setIfInBounds_toArray, List.set_cons_zero, List.set_cons_succ]
      rfl
    refine pure_ (i := 11) (N := some 16) (v := undef) (a' := ?_) #[true, true, true, true, true, true, true, true, true, true, true, true, false] rfl rfl (any_of HT_.out (by kernel_rfl)) (fun _ _ _ h => h) (Or.inr ⟨by rfl, rfl⟩) ?_ ?_
    rotate_left
    · simp only [Act.put, List.setIfInBounds_toArray, List.set_cons_zero, List.set_cons_succ]
      rfl
    refine pure_ (i := 12) (N := some 17) (v := ?_) (a' := ?_) #[true, true, true, true, true, true, true, true, true, true, true, true, true] rfl rfl (any_of HT_.out (by kernel_rfl)) (fun _ _ _ h => h) (Or.inl ⟨by rfl, ?_⟩) ?_ ?_
    rotate_left
    · intro w'
      go_simp
      try with_reducible rfl
    rotate_left
    · simp only [Act.put, List.setIfInBounds_toArray, List.set_cons_zero, List.set_cons_succ]
      rfl
    refine done_ (done_of HT_.out (by kernel_rfl)) ?_
    have HS1 := Aside0.mk hHeld
    clear hHeld HT_ HW_
    have HG1 := Aside0.mk (HS1.out.1 (w.heap.size, .cells #[.int .i64 t, .string key, .int .i64 c, .int .i64 v] 49 (0, 0)) (by simp))
    go_wp2_with (first | ((with_reducible refine gload 49 rfl ?_); refine wpList_load_blk rfl 49 _ rfl w.heap.size _ 49 _ rfl HG1.out _ Try.underlying49 rfl infoRec ?_) | fail)
    refine (HREC.out _).mono ?_
    rintro e w2 ⟨rfl, hb2⟩
    have HB2 := Aside0.mk (HS1.out.step hb2).2
    clear hb2 HS1
    go_wp2_with fail
    go_ret
    exact ⟨congrArg (fun b => Ending.returned (Value.int .i64 b)) HE.out, HB2.out⟩
end Go.Proofs.Ytnodnpenlplleaa.Own
