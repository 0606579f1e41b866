/- Layer 10: LimiterMore: the walk. -/
import Derived.Test.YtnodnpenlplleaaLimP
import Derived.Test.YtnodnpenlplleaaRec
namespace Go.Proofs.Ytnodnpenlplleaa.Own
open Go.RowKit Go.Proofs.YtnodnpenlplleaaW.PrintWords Go.Proofs.YtnodnpenlplleaaW.PrintLast Go.Proofs.YtnodnpenlplleaaW.PrintMore
set_option linter.unusedVariables false
set_option linter.unusedSimpArgs false
attribute [local go_sem] Oper.semAt_some
def more__T8 : Bool × List (List Nat × List Nat) := (true, [([], []), ([], []), ([], []), ([1, 2], [1, 2]), ([3], [3]), ([4], [4]), ([], []), ([], []), ([6, 7], [6, 7]), ([8], [8]), ([9], [9]), ([], []), ([], []), ([11, 12], [11, 12]), ([13], [13]), ([14], [14]), ([0, 5, 10, 15], [0, 5, 10, 15])])
def more__B8 : List Nat := [0, 0, 0, 6, 14, 30, 0, 0, 192, 448, 960, 0, 0, 6144, 14336, 30720, 65535]
theorem more__tab8 : rtab .any (opsOf Try.f7 8) = more__T8 := by kernel_rfl
theorem more__bits8 : waitsOk more__T8.2 more__B8 = true := by kernel_rfl

theorem take_rd (l : List Rc) (j : Nat) (h : j < l.length) : l.take (j + 1) = l.take j ++ [rdRc l (j : Int)] := by
  rw [List.take_add_one]
  congr 1
  unfold rdRc
  rw [Int.toNat_natCast, List.getD_eq_getElem?_getD, List.getElem?_eq_getElem h]
  rfl
theorem mem_rd (l : List Rc) (j : Nat) (h : j < l.length) : rdRc l (j : Int) ∈ l := by
  unfold rdRc
  rw [Int.toNat_natCast, List.getD_eq_getElem?_getD, List.getElem?_eq_getElem h]
  exact List.getElem_mem h
/-- What is asked for a record. -/
def qs (l : List Rc) : List (Int × ByteArray × Int) := l.map fun r => (r.t, r.key, r.c)
theorem run_rd (p : Pol) (l : List Rc) (j : Nat) (h : j < l.length) : runL p ⟨0, []⟩ (qs (l.take (j + 1))) = askS p (runL p ⟨0, []⟩ (qs (l.take j))) (rdRc l (j : Int)).t (rdRc l (j : Int)).key (rdRc l (j : Int)).c := by
  rw [take_rd l j h]
  unfold qs
  rw [List.map_append, runL_append]
  rfl
theorem run_len (p : Pol) (l : List Rc) (j : Nat) : (runL p ⟨0, []⟩ (qs (l.take j))).rows.length ≤ j := by
  have h := runL_length p ⟨0, []⟩ (qs (l.take j))
  have h2 : (qs (l.take j)).length ≤ j := by unfold qs; simp; omega
  simp only [List.length_nil] at h
  omega

set_option maxRecDepth 100000 in
set_option maxHeartbeats 4000000 in
theorem LimiterMore_fn (w : World) (p : Pol) (A : Option Addr) (cp : Nat) (l : List Rc) (key : ByteArray) (cost more : Int) (hr : Kd.C kRc w A l.length l) (hc : l.length ≤ maxLen) (hs : ∀ r ∈ l, r.key.size ≤ maxLen) (hk : key.size ≤ maxLen) :
    Calls Try.prog 7 #[p.val, .slice A l.length cp, .string key, .int .i64 cost, .int .i64 more] w fun e w' => e = .returned (.bool true) ∧ Below w.heap.size w w' := by
  have HNEW := Aside0.mk (fun w' => NewL_fn w' p)
  have HG := Aside0.mk (heap_alloc_new w (.cells p.cells 23 (0, 0)))
  have HB := Aside0.mk (show Below w.heap.size w (w.alloc (.cells p.cells 23 (0, 0))) from (Below.refl _ w).alloc (Nat.le_refl _) _)
  have HR := Aside0.mk hr
  have HPE := Aside0.mk (show ∀ (er : Int), p.E = er → er = 0 → p.ok from fun er h h2 => h.trans h2)
  have HSS := Aside0.mk hs
  obtain ⟨er, her⟩ : ∃ er, p.E = er := ⟨_, rfl⟩
  have HER := Aside0.mk her
  rw [her] at HNEW
  obtain ⟨P0, hP0⟩ : ∃ P0, p = P0 := ⟨_, rfl⟩
  rw [hP0] at HER HPE
  have HP0 := Aside0.mk hP0
  have HNP := Aside0.mk (fun (e : Ending) (w0 w' : World) (h : NewLPost w0 p er e w') => (hP0 ▸ h : NewLPost w0 P0 er e w'))
  clear hr her hs hP0
  obtain ⟨kind, cap, num, den, width, count, keys, slots, every, seg⟩ := p
  simp only [Pol.val, Pol.cells] at HNEW HG HB ⊢
  go_enter Try.func7, Try.ntmps7
  go_wp2_with fail
  refine (awake_fn _).mono ?_
  rintro e w1 ⟨rfl, hb1⟩
  have HG1 := Aside0.mk ((hb1.block _ (by simp)).trans HG.out)
  have HB1 := Aside0.mk (HB.out.trans (hb1.mono (by simp)))
  clear hb1 HG HB
  go_wp2_with (first | ((with_reducible refine gload 23 rfl ?_); refine wpList_load_blk rfl 23 _ rfl w.heap.size _ 23 _ rfl HG1.out _ Try.underlying23 rfl infoPol ?_) | fail)
  refine (HNEW.out _).mono ?_
  intro e w2 hpost
  replace hpost := HNP.out _ _ _ hpost
  clear HNEW HNP HP0 HG1
  rcases hpost with ⟨h0, lb, sb, mb, rfl, h1, h2, h3, hl, hb⟩ | ⟨h0, rfl, hb⟩
  case inr =>
    have hne : decide (er = 0) = false := decide_eq_false h0
    have HB2 := Aside0.mk (HB1.out.trans (hb.mono HB1.out.size))
    clear hb HPE HER HSS HR
    go_wp2_with fail
    go_ret
    exact ⟨rfl, HB2.out⟩
  subst h0
  have hs1 := HB1.out.size
  have HL2 := Aside0.mk (show LimI w.heap.size w2 lb sb mb P0 (runL P0 ⟨0, []⟩ (qs (l.take 0))) from ⟨hl, new_ok (HPE.out _ HER.out rfl), by omega, by omega, by omega⟩)
  have HB2 := Aside0.mk (HB1.out.trans (hb.mono hs1))
  clear hl hb h1 h2 h3 hs1 HB1 HPE HER
  go_wp2_with fail
  go_loopw [14] (fun i wr => ∃ j : Nat, j ≤ l.length ∧ j ≤ 300 ∧ i = .int .i64 (j : Int) ∧ Aside0 (LimI w.heap.size wr lb sb mb P0 (runL P0 ⟨0, []⟩ (qs (l.take j))) ∧ Below w.heap.size w wr ∧ w.heap.size ≤ wr.heap.size)) (fun i _ => 300 - (intOf i).toNat)
  case atStart => exact ⟨0, by omega, by omega, rfl, ⟨HL2.out, HB2.out, HB2.out.size⟩⟩
  case round =>
    obtain ⟨j, hj, hj3, rfl, BS⟩ := hrel
    clear HL2 HB2
    have HLEN := Aside0.mk (show (runL P0 ⟨0, []⟩ (qs (l.take j))).rows.length ≤ 100000 from Nat.le_trans (run_len P0 l j) (by omega))
    by_cases hlt : j < l.length ∧ j < 300
    · obtain ⟨hlt, h300⟩ := hlt
      obtain ⟨ad, eA, c0, c1, c2, c3⟩ := atRc HR.out (j : Int) (by omega) (by omega)
      subst eA
      simp only [Int.toNat_natCast] at c0 c1 c2 c3
      have i0 : (0 : Int) ≤ (j : Int) := by omega
      have i1 : (j : Int) < (l.length : Int) := by omega
      have i3 : (j : Int) < 300 := by omega
      have HRN := Aside0.mk (run_rd P0 l j hlt)
      have HSZ := Aside0.mk (HSS.out _ (mem_rd l j hlt))
      generalize rdRc l (j : Int) = x at c0 c1 c2 c3 HRN HSZ
      have C0 := Aside0.mk c0
      have C1 := Aside0.mk c1
      have C2 := Aside0.mk c2
      clear c0 c1 c2 c3
      go_wp2_with fail
      refine start_ (n := 17) (S := Below w.heap.size w) (ds := []) #[false, false, false, false, false, false, false, false, false, false, false, false, false, false, false, false, false] (by kernel_rfl) rfl rfl (BS.out.2.1.drew) (fun hHeld => ?_); refine with_tabW more__tab8 more__bits8 (fun HT_ HW_ => ?_)
      refine pure_ (i := 0) (N := some 46) (v := ?_) (a' := ?_) #[true, false, false, false, false, false, false, false, false, false, false, false, false, false, false, false, false] rfl rfl (any_of HT_.out (by kernel_rfl)) (fun _ _ _ h => h) (Or.inl ⟨by rfl, ?_⟩) ?_ ?_
      rotate_left
      · intro w'
        go_simp
        try with_reducible rfl
      rotate_left
      · simp only [Act.put, List.setIfInBounds_toArray, List.set_cons_zero, List.set_cons_succ]
        rfl
      refine pure_ (i := 1) (N := some 47) (v := ?_) (a' := ?_) #[true, true, false, false, false, false, false, false, false, false, false, false, false, false, false, false, false] rfl rfl (any_of HT_.out (by kernel_rfl)) (fun _ _ _ h => h) (Or.inl ⟨by rfl, ?_⟩) ?_ ?_
      rotate_left
      · intro w'
        go_simp
        try with_reducible rfl
      rotate_left
      · simp only [Act.put, List.setIfInBounds_toArray, List.set_cons_zero, List.set_cons_succ]
        rfl
      refine pure_ (i := 2) (N := some 48) (v := ?_) (a' := ?_) #[true, true, true, false, false, false, false, false, false, false, false, false, false, false, false, false, false] rfl rfl (any_of HT_.out (by kernel_rfl)) (fun _ _ _ h => h) (Or.inl ⟨by rfl, ?_⟩) ?_ ?_
      rotate_left
      · intro w'
        go_simp
        try with_reducible rfl
      rotate_left
      · simp only [Act.put, List.setIfInBounds_toArray, List.set_cons_zero, List.set_cons_succ]
        rfl
      refine pure_ (i := 6) (N := some 52) (v := ?_) (a' := ?_) #[true, true, true, false, false, false, true, false, false, false, false, false, false, false, false, false, false] rfl rfl (any_of HT_.out (by kernel_rfl)) (fun _ _ _ h => h) (Or.inl ⟨by rfl, ?_⟩) ?_ ?_
      rotate_left
      · intro w'
        go_simp
        try with_reducible rfl
      rotate_left
      · simp only [Act.put, List.setIfInBounds_toArray, List.set_cons_zero, List.set_cons_succ]
        rfl
      refine pure_ (i := 7) (N := some 53) (v := ?_) (a' := ?_) #[true, true, true, false, false, false, true, true, false, false, false, false, false, false, false, false, false] rfl rfl (any_of HT_.out (by kernel_rfl)) (fun _ _ _ h => h) (Or.inl ⟨by rfl, ?_⟩) ?_ ?_
      rotate_left
      · intro w'
        go_simp
        try with_reducible rfl
      rotate_left
      · simp only [Act.put, List.setIfInBounds_toArray, List.set_cons_zero, List.set_cons_succ]
        rfl
      refine pure_ (i := 11) (N := some 57) (v := ?_) (a' := ?_) #[true, true, true, false, false, false, true, true, false, false, false, true, false, false, false, false, false] rfl rfl (any_of HT_.out (by kernel_rfl)) (fun _ _ _ h => h) (Or.inl ⟨by rfl, ?_⟩) ?_ ?_
      rotate_left
      · intro w'
        go_simp
        try with_reducible rfl
      rotate_left
      · simp only [Act.put, List.setIfInBounds_toArray, List.set_cons_zero, List.set_cons_succ]
        rfl
      refine pure_ (i := 12) (N := some 58) (v := ?_) (a' := ?_) #[true, true, true, false, false, false, true, true, false, false, false, true, true, false, false, false, false] rfl rfl (any_of HT_.out (by kernel_rfl)) (fun _ _ _ h => h) (Or.inl ⟨by rfl, ?_⟩) ?_ ?_
      rotate_left
      · intro w'
        go_simp
        try with_reducible rfl
      rotate_left
      · simp only [Act.put, List.setIfInBounds_toArray, List.set_cons_zero, List.set_cons_succ]
        rfl
      refine pure_ (i := 3) (N := some 49) (v := ?_) (a' := ?_) #[true, true, true, true, false, false, true, true, false, false, false, true, true, false, false, false, false] rfl rfl (any_of HT_.out (by kernel_rfl)) (fun _ _ _ h => h) (Or.inl ⟨by rfl, ?_⟩) ?_ ?_
      rotate_left
      · intro w'
        go_simp
        try with_reducible rfl
      rotate_left
      · simp only [Act.put, List.setIfInBounds_toArray, List.set_cons_zero, List.set_cons_succ]
        rfl
      refine pure_ (i := 8) (N := some 54) (v := ?_) (a' := ?_) #[true, true, true, true, false, false, true, true, true, false, false, true, true, false, false, false, false] rfl rfl (any_of HT_.out (by kernel_rfl)) (fun _ _ _ h => h) (Or.inl ⟨by rfl, ?_⟩) ?_ ?_
      rotate_left
      · intro w'
        go_simp
        try with_reducible rfl
      rotate_left
      · simp only [Act.put, List.setIfInBounds_toArray, List.set_cons_zero, List.set_cons_succ]
        rfl
      refine pure_ (i := 13) (N := some 59) (v := ?_) (a' := ?_) #[true, true, true, true, false, false, true, true, true, false, false, true, true, true, false, false, false] rfl rfl (any_of HT_.out (by kernel_rfl)) (fun _ _ _ h => h) (Or.inl ⟨by rfl, ?_⟩) ?_ ?_
      rotate_left
      · intro w'
        go_simp
        try with_reducible rfl
      rotate_left
      · simp only [Act.put, List.setIfInBounds_toArray, List.set_cons_zero, List.set_cons_succ]
        rfl
      refine pure_ (i := 4) (N := some 50) (v := ?_) (a' := ?_) #[true, true, true, true, true, false, true, true, true, false, false, true, true, true, false, false, false] rfl rfl (any_of HT_.out (by kernel_rfl)) (fun _ _ _ h => h) (Or.inl ⟨by rfl, ?_⟩) ?_ ?_
      rotate_left
      · intro w'
        go_simp
        try with_reducible rfl
      rotate_left
      · simp only [Act.put, List.setIfInBounds_toArray, List.set_cons_zero, List.set_cons_succ]
        rfl
      refine pure_ (i := 9) (N := some 55) (v := ?_) (a' := ?_) #[true, true, true, true, true, false, true, true, true, true, false, true, true, true, false, false, false] rfl rfl (any_of HT_.out (by kernel_rfl)) (fun _ _ _ h => h) (Or.inl ⟨by rfl, ?_⟩) ?_ ?_
      rotate_left
      · intro w'
        go_simp
        try with_reducible rfl
      rotate_left
      · simp only [Act.put, List.setIfInBounds_toArray, List.set_cons_zero, List.set_cons_succ]
        rfl
      refine pure_ (i := 14) (N := some 60) (v := ?_) (a' := ?_) #[true, true, true, true, true, false, true, true, true, true, false, true, true, true, true, false, false] rfl rfl (any_of HT_.out (by kernel_rfl)) (fun _ _ _ h => h) (Or.inl ⟨by rfl, ?_⟩) ?_ ?_
      rotate_left
      · intro w'
        go_simp
        try with_reducible rfl
      rotate_left
      · simp only [Act.put, List.setIfInBounds_toArray, List.set_cons_zero, List.set_cons_succ]
        rfl
      refine take_ (i := 5) (N := some 51) (v := ?_) (a' := ?_) #[true, true, true, true, true, true, true, true, true, true, false, true, true, true, true, false, false] rfl rfl (take_ofW HT_.out HW_.out (by kernel_rfl)) (fun _ _ _ h => h) (Or.inl ⟨by rfl, ?_⟩) hHeld ?_ ?_
      rotate_left
      · intro w' hS'
        have d0 := (hS'.cell (World.block_lt_of_cell? w _ C0.out)).trans C0.out
        go_simp
        try with_reducible rfl
      rotate_left
      · simp only [Act.put, List.setIfInBounds_toArray, List.set_cons_zero, List.set_cons_succ]
        rfl
      refine take_ (i := 10) (N := some 56) (v := ?_) (a' := ?_) #[true, true, true, true, true, true, true, true, true, true, true, true, true, true, true, false, false] rfl rfl (take_ofW HT_.out HW_.out (by kernel_rfl)) (fun _ _ _ h => h) (Or.inl ⟨by rfl, ?_⟩) hHeld ?_ ?_
      rotate_left
      · intro w' hS'
        have d0 := (hS'.cell (World.block_lt_of_cell? w _ C1.out)).trans C1.out
        go_simp
        try with_reducible rfl
      rotate_left
      · simp only [Act.put, List.setIfInBounds_toArray, List.set_cons_zero, List.set_cons_succ]
        rfl
      refine take_ (i := 15) (N := some 61) (v := ?_) (a' := ?_) #[true, true, true, true, true, true, true, true, true, true, true, true, true, true, true, true, false] rfl rfl (take_ofW HT_.out HW_.out (by kernel_rfl)) (fun _ _ _ h => h) (Or.inl ⟨by rfl, ?_⟩) hHeld ?_ ?_
      rotate_left
      · intro w' hS'
        have d0 := (hS'.cell (World.block_lt_of_cell? w _ C2.out)).trans C2.out
        go_simp
        try with_reducible rfl
      rotate_left
      · simp only [Act.put, List.setIfInBounds_toArray, List.set_cons_zero, List.set_cons_succ]
        rfl
      refine one_ (i := 16) (N := some 62) #[true, true, true, true, true, true, true, true, true, true, true, true, true, true, true, true, true] rfl rfl (one_of HT_.out (by kernel_rfl)) (by decide) (fun K hK => ?_)
      refine goes_ Try.func27 (by kernel_rfl) rfl #[.pointer (some ⟨lb, 0, none⟩), .int .i64 x.t, .string x.key, .int .i64 x.c] (by rfl) rfl rfl (by simp [Act.eval]) ?_
      refine (AskI_fn w.heap.size w _ lb sb mb _ _ x.t x.key x.c (BS.out.1.below ((Below.refl _ _).drew)) (by exact BS.out.2.2) hHeld HSZ.out HLEN.out).mono ?_
      rintro e w4 ⟨rfl, hl4, hb4, hn4, _⟩
      refine ⟨_, rfl, ?_⟩
      simp only [Act.put, List.setIfInBounds_toArray, List.set_cons_zero, List.set_cons_succ]
      have HN := Aside0.mk (And.intro hl4 (And.intro hb4 hn4))
      clear hl4 hn4
      refine hK.out _ _ (hb4) (fun hHeld => ?_)
      clear hK K
      refine done_ (done_of HT_.out (by kernel_rfl)) ?_
      clear hHeld HT_ HW_
      go_wp2_with fail
      go_roundw
      case rel => exact ⟨j + 1, by omega, by omega, by go_num, by rw [HRN.out]; exact HN⟩
      case measure => simp [intOf]; omega
    · have hend : ¬ ((j : Int) < (l.length : Int)) ∨ (j : Int) < (l.length : Int) ∧ ¬ ((j : Int) < 300) := by omega
      have hl300 := run_len P0 l j
      generalize runL P0 ⟨0, []⟩ (qs (l.take j)) = s at BS HLEN hl300
      have HLEN2 := Aside0.mk (show (askS P0 s s.tick key cost).rows.length ≤ 100000 from by have h1 := askS_length (p := P0) (s := s) s.tick key cost; omega)
      have HA1 := Aside0.mk (fun w' (h : LimI w.heap.size w' lb sb mb P0 s) (hn : w.heap.size ≤ w'.heap.size) (hb : Below w.heap.size w w') => AskI_fn w.heap.size w w' lb sb mb P0 s s.tick key cost h hn hb hk HLEN.out)
      have HA2 := Aside0.mk (fun w' (h : LimI w.heap.size w' lb sb mb P0 (askS P0 s s.tick key cost)) (hn : w.heap.size ≤ w'.heap.size) (hb : Below w.heap.size w w') => AskI_fn w.heap.size w w' lb sb mb P0 (askS P0 s s.tick key cost) (askS P0 s s.tick key cost).tick key more h hn hb hk HLEN2.out)
      have HLAW := Aside0.mk (more_law (p := P0) (s := s) BS.out.1.ok key cost more)
      have c0 : wr.cell? ⟨lb, 0, none⟩ = some (.pointer (some ⟨sb, 0, none⟩)) := by rw [cell_of_row wr _ 0 _ _ _ BS.out.1.lim.top]; rfl
      clear hlt hl300 HR HSS hj hj3
      rcases hend with hd1 | ⟨hd1, hd2⟩
      · go_wp2_with fail
        refine (Now_fn _ sb mb P0 s.tick s.rows BS.out.1.lim.led).mono ?_
        rintro e w3 ⟨rfl, hw⟩
        rw [hw]
        clear hw w3
        go_wp2_with fail
        refine (HA1.out _ BS.out.1 BS.out.2.2 BS.out.2.1).mono ?_
        rintro e w4 ⟨rfl, hl4, hb4, hn4, _⟩
        have c4 : w4.cell? ⟨lb, 0, none⟩ = some (.pointer (some ⟨sb, 0, none⟩)) := by rw [cell_of_row w4 _ 0 _ _ _ hl4.lim.top]; rfl
        have HL4 := Aside0.mk (And.intro hl4 (And.intro hn4 hb4))
        clear hl4 hb4 hn4 HA1 c0 BS
        generalize askS P0 s s.tick key cost = s2 at HA2 HL4 HLAW
        generalize askV P0 s s.tick key cost = v at HLAW
        generalize askE s s.tick key cost = f at HLAW
        go_wp2_with fail
        refine (Now_fn _ sb mb P0 s2.tick s2.rows HL4.out.1.lim.led).mono ?_
        rintro e w5 ⟨rfl, hw⟩
        rw [hw]
        clear hw w5
        go_wp2_with fail
        refine (HA2.out _ HL4.out.1 HL4.out.2.1 HL4.out.2.2).mono ?_
        rintro e w6 ⟨rfl, hl6, hb6, hn6, _⟩
        have HB6 := Aside0.mk hb6
        clear hl6 hb6 hn6 HA2 c4 HL4
        generalize askV P0 s2 s2.tick key more = u at HLAW
        generalize askE s2 s2.tick key more = g at HLAW
        by_cases hf : f = 0
        · by_cases hg : g = 0
          · by_cases hv : v = 0
            · by_cases hcm : more < cost
              · go_wp2_with fail
                go_ret
                exact ⟨rfl, HB6.out⟩
              · have hu : u = 0 := HLAW.out hf hg hv (by omega)
                subst hu
                go_wp2_with fail
                go_ret
                exact ⟨rfl, HB6.out⟩
            · go_wp2_with fail
              go_ret
              exact ⟨rfl, HB6.out⟩
          · go_wp2_with fail
            go_ret
            exact ⟨rfl, HB6.out⟩
        · go_wp2_with fail
          go_ret
          exact ⟨rfl, HB6.out⟩
      · go_wp2_with fail
        refine (Now_fn _ sb mb P0 s.tick s.rows BS.out.1.lim.led).mono ?_
        rintro e w3 ⟨rfl, hw⟩
        rw [hw]
        clear hw w3
        go_wp2_with fail
        refine (HA1.out _ BS.out.1 BS.out.2.2 BS.out.2.1).mono ?_
        rintro e w4 ⟨rfl, hl4, hb4, hn4, _⟩
        have c4 : w4.cell? ⟨lb, 0, none⟩ = some (.pointer (some ⟨sb, 0, none⟩)) := by rw [cell_of_row w4 _ 0 _ _ _ hl4.lim.top]; rfl
        have HL4 := Aside0.mk (And.intro hl4 (And.intro hn4 hb4))
        clear hl4 hb4 hn4 HA1 c0 BS
        generalize askS P0 s s.tick key cost = s2 at HA2 HL4 HLAW
        generalize askV P0 s s.tick key cost = v at HLAW
        generalize askE s s.tick key cost = f at HLAW
        go_wp2_with fail
        refine (Now_fn _ sb mb P0 s2.tick s2.rows HL4.out.1.lim.led).mono ?_
        rintro e w5 ⟨rfl, hw⟩
        rw [hw]
        clear hw w5
        go_wp2_with fail
        refine (HA2.out _ HL4.out.1 HL4.out.2.1 HL4.out.2.2).mono ?_
        rintro e w6 ⟨rfl, hl6, hb6, hn6, _⟩
        have HB6 := Aside0.mk hb6
        clear hl6 hb6 hn6 HA2 c4 HL4
        generalize askV P0 s2 s2.tick key more = u at HLAW
        generalize askE s2 s2.tick key more = g at HLAW
        by_cases hf : f = 0
        · by_cases hg : g = 0
          · by_cases hv : v = 0
            · by_cases hcm : more < cost
              · go_wp2_with fail
                go_ret
                exact ⟨rfl, HB6.out⟩
              · have hu : u = 0 := HLAW.out hf hg hv (by omega)
                subst hu
                go_wp2_with fail
                go_ret
                exact ⟨rfl, HB6.out⟩
            · go_wp2_with fail
              go_ret
              exact ⟨rfl, HB6.out⟩
          · go_wp2_with fail
            go_ret
            exact ⟨rfl, HB6.out⟩
        · go_wp2_with fail
          go_ret
          exact ⟨rfl, HB6.out⟩
end Go.Proofs.Ytnodnpenlplleaa.Own
