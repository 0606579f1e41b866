/- Layer 10: LimiterFair: the walk. -/
import Derived.Test.YtnodnpenlplleaaLimQ
import Derived.Test.YtnodnpenlplleaaLimM
namespace Go.Proofs.Ytnodnpenlplleaa.Own
open Go.RowKit Go.Proofs.YtnodnpenlplleaaW.PrintWords Go.Proofs.YtnodnpenlplleaaW.PrintLast Go.Proofs.YtnodnpenlplleaaW.PrintMore
set_option linter.unusedVariables false
set_option linter.unusedSimpArgs false
attribute [local go_sem] Oper.semAt_some max2_int max_two
def fair__T10 : Bool × List (List Nat × List Nat) := (true, [([], []), ([0], [0]), ([1], [1]), ([1], [1]), ([2, 3, 1], [1, 2, 3]), ([4, 1], [1, 4]), ([1], [1]), ([1], [1]), ([6, 7, 1], [1, 6, 7]), ([8, 1], [1, 8]), ([9, 1], [1, 9]), ([5, 10, 1], [1, 5, 10]), ([1, 11], [1, 11]), ([12, 1, 0, 1, 2, 3, 4, 5, 6, 7, 8, 9, 10, 11, 12], [0, 12])])
def fair__B10 : List Nat := [0, 1, 3, 3, 15, 31, 3, 3, 195, 451, 963, 2047, 4095, 8191]
theorem fair__tab10 : rtab .any (opsOf Try.f6 10) = fair__T10 := by kernel_rfl
theorem fair__bits10 : waitsOk fair__T10.2 fair__B10 = true := by kernel_rfl
def fair__T24 : Bool × List (List Nat × List Nat) := (true, [([], []), ([], []), ([], []), ([1, 2], [1, 2]), ([3], [3]), ([4], [4]), ([], []), ([], []), ([6, 7], [6, 7]), ([8], [8]), ([9], [9]), ([], []), ([], []), ([11, 12], [11, 12]), ([13], [13]), ([14], [14]), ([0, 5, 10, 15], [0, 5, 10, 15]), ([16], [16]), ([17], [17]), ([17], [17]), ([18, 16, 0, 1, 2, 3, 4, 5, 6, 7, 8, 9, 10, 11, 12, 13, 14, 15, 16, 17, 18], [18]), ([19, 20, 0, 1, 2, 3, 4, 5, 6, 7, 8, 9, 10, 11, 12, 13, 14, 15, 16, 17, 18, 19, 20], [19])])
def fair__B24 : List Nat := [0, 0, 0, 6, 14, 30, 0, 0, 192, 448, 960, 0, 0, 6144, 14336, 30720, 65535, 131071, 262143, 262143, 524287, 2097151]
theorem fair__tab24 : rtab .any (opsOf Try.f6 24) = fair__T24 := by kernel_rfl
theorem fair__bits24 : waitsOk fair__T24.2 fair__B24 = true := by kernel_rfl
def fair__T29 : Bool × List (List Nat × List Nat) := (true, [([], []), ([], []), ([], []), ([1, 2], [1, 2]), ([3], [3]), ([4], [4]), ([], []), ([], []), ([6, 7], [6, 7]), ([8], [8]), ([9], [9]), ([], []), ([], []), ([11, 12], [11, 12]), ([13], [13]), ([14], [14]), ([0, 5, 10, 15], [0, 5, 10, 15]), ([16], [16]), ([17], [17]), ([17], [17]), ([18, 16, 0, 1, 2, 3, 4, 5, 6, 7, 8, 9, 10, 11, 12, 13, 14, 15, 16, 17, 18], [18]), ([19, 20, 0, 1, 2, 3, 4, 5, 6, 7, 8, 9, 10, 11, 12, 13, 14, 15, 16, 17, 18, 19, 20], [19])])
def fair__B29 : List Nat := [0, 0, 0, 6, 14, 30, 0, 0, 192, 448, 960, 0, 0, 6144, 14336, 30720, 65535, 131071, 262143, 262143, 524287, 2097151]
theorem fair__tab29 : rtab .any (opsOf Try.f6 29) = fair__T29 := by kernel_rfl
theorem fair__bits29 : waitsOk fair__T29.2 fair__B29 = true := by kernel_rfl

theorem infoStr : (Try.prog.info? 9).map (fun i => (i.zero, i.size, i.bytes)) = some (some (.string ⟨#[]⟩), 1, 16) := by kernel_rfl
def hasK (ks : List ByteArray) (k : ByteArray) : Bool := ks.any fun x => decide (x = k)
theorem hasK_iff {ks : List ByteArray} {k : ByteArray} : hasK ks k = true ↔ k ∈ ks := by
  unfold hasK
  rw [List.any_eq_true]
  constructor
  · rintro ⟨x, hx, h⟩
    have := of_decide_eq_true h
    exact this ▸ hx
  · intro h
    exact ⟨k, h, decide_eq_true rfl⟩
def addK (ks : List ByteArray) (k : ByteArray) : List ByteArray := if hasK ks k = true then ks else ks ++ [k]
def keysOf (l : List Rc) : List ByteArray := l.foldl (fun ks r => addK ks r.key) []
theorem str_beq (y x : ByteArray) : (y.toList == x.toList) = decide (y = x) := by
  rw [Bool.eq_iff_iff, beq_iff_eq, decide_eq_true_iff]
  constructor
  · intro h
    rw [ByteArray.toList_eq, ByteArray.toList_eq] at h
    exact bytes_ext h
  · intro h
    rw [h]
theorem keysOf_rd (l : List Rc) (j : Nat) (h : j < l.length) : keysOf (l.take (j + 1)) = addK (keysOf (l.take j)) (rdRc l (j : Int)).key := by
  rw [take_rd l j h]
  unfold keysOf
  rw [List.foldl_append]
  rfl
theorem addK_mem {ks : List ByteArray} {k x : ByteArray} (h : x ∈ ks ∨ x = k) : x ∈ addK ks k := by
  unfold addK
  split
  · rename_i hk
    rcases h with h | h
    · exact h
    · rw [h]; exact hasK_iff.1 hk
  · rcases h with h | h <;> simp [h]
theorem keysOf_mem (l : List Rc) : ∀ j, j ≤ l.length → ∀ i, i < j → (rdRc l (i : Int)).key ∈ keysOf (l.take j)
  | 0, _, i, h => by omega
  | j + 1, hj, i, h => by
    rw [keysOf_rd l j (by omega)]
    by_cases e : i = j
    · subst e; exact addK_mem (.inr rfl)
    · exact addK_mem (.inl (keysOf_mem l j (by omega) i (by omega)))
theorem mem_take_rd (ks : List ByteArray) (k : Nat) (h : k < ks.length) (x : ByteArray) : hasK (ks.take (k + 1)) x = (hasK (ks.take k) x || decide (rdOf ByteArray.empty ks (k : Int) = x)) := by
  have e : ks.take (k + 1) = ks.take k ++ [rdOf ByteArray.empty ks (k : Int)] := by
    rw [List.take_add_one]
    congr 1
    unfold rdOf
    rw [Int.toNat_natCast, List.getD_eq_getElem?_getD, List.getElem?_eq_getElem h]
    rfl
  unfold hasK
  rw [e, List.any_append]
  simp

theorem LimI.beside {n : Nat} {w w' : World} {ly sy my lx sx mx : Nat} {p p' : Pol} {s s' : LSt} (hy : LimI n w ly sy my p' s') (hx : LimI n w lx sx mx p s) (h1 : sy ≠ sx) (h2 : my ≠ mx) (hk : Keeps (fun k => k = sx ∨ k = mx) w w') : LimI n w' ly sy my p' s' := by
  refine ⟨⟨(hk.block ly (Array.getElem?_eq_some_iff.1 hy.lim.top).1 (fun e => ?_)).trans hy.lim.top, hy.lim.led.beside hx.lim.led h1 h2 hk⟩, hy.ok, hy.at1, hy.at2, hy.at3⟩
  have ht := hy.lim.top
  rcases e with e | e
  · rw [e, hx.lim.led.blk] at ht
    injection ht with ht
    injection ht with _ ht
    exact absurd ht (by decide)
  · obtain ⟨es, clock, hm⟩ := hx.lim.led.map_blk
    rw [e, hm] at ht
    cases ht

set_option maxRecDepth 100000 in
set_option maxHeartbeats 4000000 in
theorem LimiterFair_fn (w : World) (p : Pol) (A : Option Addr) (cp : Nat) (l : List Rc) (key : ByteArray) (hr : Kd.C kRc w A l.length l) (hc : l.length ≤ maxLen) (hs : ∀ r ∈ l, r.key.size ≤ maxLen) (hk : key.size ≤ maxLen) :
    Calls Try.prog 6 #[p.val, .slice A l.length cp, .string key] w fun e w' => e = .returned (.bool true) ∧ Below w.heap.size w w' := by
  have HNEW := Aside0.mk (fun w' (kk : Int) => NewL_fn w' { p with keys := kk })
  have HG := Aside0.mk (heap_alloc_new w (.cells p.cells 23 (0, 0)))
  have HB := Aside0.mk (show Below w.heap.size w (w.alloc (.cells p.cells 23 (0, 0))) from (Below.refl _ w).alloc (Nat.le_refl _) _)
  have HR := Aside0.mk hr
  have HSS := Aside0.mk hs
  clear hr hs
  obtain ⟨kind, cap, num, den, width, count, keys, slots, every, seg⟩ := p
  simp only [Pol.val, Pol.cells] at HG HB ⊢
  simp only at HNEW
  have hcl : l.length ≤ 9223372036854775807 := by simp only [maxLen] at hc; omega
  go_enter Try.func6, Try.ntmps6
  go_wp2_with fail
  refine (awake_fn _).mono ?_
  rintro e w1 ⟨rfl, hb1⟩
  have HG1 := Aside0.mk ((hb1.block _ (by simp)).trans HG.out)
  have HB1 := Aside0.mk (HB.out.trans (hb1.mono (by simp)))
  clear hb1 HG HB
  go_wp2_with fail
  go_loopw [8, 9] (fun vo i wr => ∃ j : Nat, j ≤ l.length ∧ i = .int .i64 (j : Int) ∧ Aside0 (Kd.R Kd.string 9 wr w1.heap.size (fun k => w1.heap.size ≤ k) vo (keysOf (l.take j)) ∧ (keysOf (l.take j)).length ≤ 40 ∧ Below w1.heap.size w1 wr)) (fun _ i _ => l.length - (intOf i).toNat)
  case atStart => exact ⟨0, by omega, rfl, ⟨Kd.R_nil _ _ _ _ _, Nat.zero_le _, Below.refl _ _⟩⟩
  case round =>
    obtain ⟨j, hj, rfl, BS⟩ := hrel
    by_cases hlt : j < l.length
    · obtain ⟨ad, eA, c0, c1, c2, c3⟩ := atRc HR.out (j : Int) (by omega) (by omega)
      subst eA
      simp only [Int.toNat_natCast] at c0 c1 c2 c3
      have i0 : (0 : Int) ≤ (j : Int) := by omega
      have i1 : (j : Int) < (l.length : Int) := by omega
      have HKS := Aside0.mk (keysOf_rd l j hlt)
      generalize rdRc l (j : Int) = x at c0 c1 c2 c3 HKS
      have C1 := Aside0.mk c1
      clear c0 c1 c2 c3
      generalize keysOf (l.take j) = ks at BS HKS
      obtain ⟨A8, c8, e8, hc8, hC8⟩ := Kd.R_reads BS.out.1
      subst e8
      have HC8 := Aside0.mk hC8
      have hks40 := BS.out.2.1
      obtain ⟨wo, rfl⟩ : ∃ wo, wo = wr := ⟨_, rfl⟩
      clear hC8
      go_wp2_with fail
      go_loopw [10, 11] (fun th i wi => ∃ k : Nat, k ≤ ks.length ∧ i = .int .i64 (k : Int) ∧ th = .bool (hasK (ks.take k) x.key) ∧ Aside0 (Below wo.heap.size wo wi)) (fun _ i _ => ks.length - (intOf i).toNat)
      case atStart => exact ⟨0, by omega, rfl, by simp [hasK], ⟨Below.refl _ _⟩⟩
      case round =>
        obtain ⟨wi, rfl⟩ : ∃ wi, wi = wr := ⟨_, rfl⟩
        obtain ⟨k, hk, rfl, rfl, BI⟩ := hrel
        have HBI := Aside0.mk (BS.out.2.2.trans (BI.out.mono BS.out.2.2.size))
        have HBW := Aside0.mk (HB1.out.trans (HBI.out.mono HB1.out.size))
        have E1 := Aside0.mk ((HBW.out.cell (World.block_lt_of_cell? w _ C1.out)).trans C1.out)
        by_cases hkl : k < ks.length
        · obtain ⟨ad8, eA8, d0⟩ := Kd.at_string (Kd.C_below HC8.out BI.out) (k : Int) (by omega) (by omega)
          subst eA8
          simp only [Int.toNat_natCast] at d0
          have k0 : (0 : Int) ≤ (k : Int) := by omega
          have k1 : (k : Int) < (ks.length : Int) := by omega
          have HTK := Aside0.mk (mem_take_rd ks k hkl x.key)
          generalize rdOf ByteArray.empty ks (k : Int) = y at d0 HTK
          have D0 := Aside0.mk d0
          clear d0
          generalize hasK (ks.take k) x.key = th at HTK
          go_wp2_with fail
          cases th with
          | true =>
            refine start_ (n := 14) (S := Below wi.heap.size wi) (ds := []) #[false, false, false, false, false, false, false, false, false, false, false, false, false, false] (by kernel_rfl) rfl rfl ((Below.refl _ _).drew) (fun hHeld => ?_); refine with_tabW fair__tab10 fair__bits10 (fun HT_ HW_ => ?_)
            refine pure_ (i := 0) (N := some 35) (v := ?_) (a' := ?_) #[true, false, false, false, false, false, false, false, false, false, false, false, false, false] rfl rfl (any_of HT_.out (by kernel_rfl)) (fun _ _ _ h => h) (Or.inl ⟨by rfl, ?_⟩) ?_ ?_
            rotate_left
            · intro w'
              go_simp
              try with_reducible rfl
            rotate_left
            · simp only [Act.put, List.setIfInBounds_toArray, List.set_cons_zero, List.set_cons_succ]
              rfl
            refine pure_ (i := 1) (N := some 36) (v := ?_) (a' := ?_) #[true, true, false, false, false, false, false, false, false, false, false, false, false, false] rfl rfl (any_of HT_.out (by kernel_rfl)) (fun _ _ _ h => h) (Or.inl ⟨by rfl, ?_⟩) ?_ ?_
            rotate_left
            · intro w'
              go_simp
              try with_reducible rfl
            rotate_left
            · simp only [Act.put, List.setIfInBounds_toArray, List.set_cons_zero, List.set_cons_succ]
              rfl
            refine pure_ (i := 2) (N := some 37) (v := undef) (a' := ?_) #[true, true, true, false, false, false, false, false, false, false, false, false, false, false] rfl rfl (any_of HT_.out (by kernel_rfl)) (fun _ _ _ h => h) (Or.inr ⟨by rfl, rfl⟩) ?_ ?_
            rotate_left
            · simp only [Act.put, List.setIfInBounds_toArray, List.set_cons_zero, List.set_cons_succ]
              rfl
            refine pure_ (i := 3) (N := some 38) (v := undef) (a' := ?_) #[true, true, true, true, false, false, false, false, false, false, false, false, false, false] rfl rfl (any_of HT_.out (by kernel_rfl)) (fun _ _ _ h => h) (Or.inr ⟨by rfl, rfl⟩) ?_ ?_
            rotate_left
            · simp only [Act.put, List.setIfInBounds_toArray, List.set_cons_zero, List.set_cons_succ]
              rfl
            refine pure_ (i := 6) (N := some 41) (v := undef) (a' := ?_) #[true, true, true, true, false, false, true, false, false, false, false, false, false, false] rfl rfl (any_of HT_.out (by kernel_rfl)) (fun _ _ _ h => h) (Or.inr ⟨by rfl, rfl⟩) ?_ ?_
            rotate_left
            · simp only [Act.put, List.setIfInBounds_toArray, List.set_cons_zero, List.set_cons_succ]
              rfl
            refine pure_ (i := 7) (N := some 42) (v := undef) (a' := ?_) #[true, true, true, true, false, false, true, true, false, false, false, false, false, false] rfl rfl (any_of HT_.out (by kernel_rfl)) (fun _ _ _ h => h) (Or.inr ⟨by rfl, rfl⟩) ?_ ?_
            rotate_left
            · simp only [Act.put, List.setIfInBounds_toArray, List.set_cons_zero, List.set_cons_succ]
              rfl
            refine pure_ (i := 4) (N := some 39) (v := undef) (a' := ?_) #[true, true, true, true, true, false, true, true, false, false, false, false, false, false] rfl rfl (any_of HT_.out (by kernel_rfl)) (fun _ _ _ h => h) (Or.inr ⟨by rfl, rfl⟩) ?_ ?_
            rotate_left
            · simp only [Act.put, List.setIfInBounds_toArray, List.set_cons_zero, List.set_cons_succ]
              rfl
            refine pure_ (i := 8) (N := some 43) (v := undef) (a' := ?_) #[true, true, true, true, true, false, true, true, true, false, false, false, false, false] rfl rfl (any_of HT_.out (by kernel_rfl)) (fun _ _ _ h => h) (Or.inr ⟨by rfl, rfl⟩) ?_ ?_
            rotate_left
            · simp only [Act.put, List.setIfInBounds_toArray, List.set_cons_zero, List.set_cons_succ]
              rfl
            refine pure_ (i := 5) (N := some 40) (v := undef) (a' := ?_) #[true, true, true, true, true, true, true, true, true, false, false, false, false, false] rfl rfl (any_of HT_.out (by kernel_rfl)) (fun _ _ _ h => h) (Or.inr ⟨by rfl, rfl⟩) ?_ ?_
            rotate_left
            · simp only [Act.put, List.setIfInBounds_toArray, List.set_cons_zero, List.set_cons_succ]
              rfl
            refine pure_ (i := 9) (N := some 44) (v := undef) (a' := ?_) #[true, true, true, true, true, true, true, true, true, true, false, false, false, false] rfl rfl (any_of HT_.out (by kernel_rfl)) (fun _ _ _ h => h) (Or.inr ⟨by rfl, rfl⟩) ?_ ?_
            rotate_left
            · simp only [Act.put, List.setIfInBounds_toArray, List.set_cons_zero, List.set_cons_succ]
              rfl
            refine pure_ (i := 10) (N := some 45) (v := undef) (a' := ?_) #[true, true, true, true, true, true, true, true, true, true, true, false, false, false] rfl rfl (any_of HT_.out (by kernel_rfl)) (fun _ _ _ h => h) (Or.inr ⟨by rfl, rfl⟩) ?_ ?_
            rotate_left
            · simp only [Act.put, List.setIfInBounds_toArray, List.set_cons_zero, List.set_cons_succ]
              rfl
            refine pure_ (i := 11) (N := some 46) (v := undef) (a' := ?_) #[true, true, true, true, true, true, true, true, true, true, true, true, false, false] rfl rfl (any_of HT_.out (by kernel_rfl)) (fun _ _ _ h => h) (Or.inr ⟨by rfl, rfl⟩) ?_ ?_
            rotate_left
            · simp only [Act.put, List.setIfInBounds_toArray, List.set_cons_zero, List.set_cons_succ]
              rfl
            refine pure_ (i := 12) (N := some 47) (v := ?_) (a' := ?_) #[true, true, true, true, true, true, true, true, true, true, true, true, true, false] rfl rfl (any_of HT_.out (by kernel_rfl)) (fun _ _ _ h => h) (Or.inl ⟨by rfl, ?_⟩) ?_ ?_
            rotate_left
            · intro w'
              go_simp
              try with_reducible rfl
            rotate_left
            · simp only [Act.put, List.setIfInBounds_toArray, List.set_cons_zero, List.set_cons_succ]
              rfl
            refine pure_ (i := 13) (N := some 10) (v := ?_) (a' := ?_) #[true, true, true, true, true, true, true, true, true, true, true, true, true, true] rfl rfl (any_of HT_.out (by kernel_rfl)) (fun _ _ _ h => h) (Or.inl ⟨by rfl, ?_⟩) ?_ ?_
            rotate_left
            · intro w'
              go_simp
              try with_reducible rfl
            rotate_left
            · simp only [Act.put, List.setIfInBounds_toArray, List.set_cons_zero, List.set_cons_succ]
              rfl
            refine done_ (done_of HT_.out (by kernel_rfl)) ?_
            have HB7 := Aside0.mk hHeld
            clear hHeld HT_ HW_
            go_wp2_with fail
            go_roundw
            case rel => exact ⟨k + 1, by omega, by go_num, by rw [HTK.out]; rfl, ⟨BI.out.trans (HB7.out.mono BI.out.size)⟩⟩
            case measure => simp [intOf]; omega
          | false =>
            refine start_ (n := 14) (S := Below wi.heap.size wi) (ds := []) #[false, false, false, false, false, false, false, false, false, false, false, false, false, false] (by kernel_rfl) rfl rfl ((Below.refl _ _).drew) (fun hHeld => ?_); refine with_tabW fair__tab10 fair__bits10 (fun HT_ HW_ => ?_)
            refine pure_ (i := 0) (N := some 35) (v := ?_) (a' := ?_) #[true, false, false, false, false, false, false, false, false, false, false, false, false, false] rfl rfl (any_of HT_.out (by kernel_rfl)) (fun _ _ _ h => h) (Or.inl ⟨by rfl, ?_⟩) ?_ ?_
            rotate_left
            · intro w'
              go_simp
              try with_reducible rfl
            rotate_left
            · simp only [Act.put, List.setIfInBounds_toArray, List.set_cons_zero, List.set_cons_succ]
              rfl
            refine pure_ (i := 1) (N := some 36) (v := ?_) (a' := ?_) #[true, true, false, false, false, false, false, false, false, false, false, false, false, false] rfl rfl (any_of HT_.out (by kernel_rfl)) (fun _ _ _ h => h) (Or.inl ⟨by rfl, ?_⟩) ?_ ?_
            rotate_left
            · intro w'
              go_simp
              try with_reducible rfl
            rotate_left
            · simp only [Act.put, List.setIfInBounds_toArray, List.set_cons_zero, List.set_cons_succ]
              rfl
            refine pure_ (i := 2) (N := some 37) (v := ?_) (a' := ?_) #[true, true, true, false, false, false, false, false, false, false, false, false, false, false] rfl rfl (any_of HT_.out (by kernel_rfl)) (fun _ _ _ h => h) (Or.inl ⟨by rfl, ?_⟩) ?_ ?_
            rotate_left
            · intro w'
              go_simp
              try with_reducible rfl
            rotate_left
            · simp only [Act.put, List.setIfInBounds_toArray, List.set_cons_zero, List.set_cons_succ]
              rfl
            refine pure_ (i := 3) (N := some 38) (v := ?_) (a' := ?_) #[true, true, true, true, false, false, false, false, false, false, false, false, false, false] rfl rfl (any_of HT_.out (by kernel_rfl)) (fun _ _ _ h => h) (Or.inl ⟨by rfl, ?_⟩) ?_ ?_
            rotate_left
            · intro w'
              go_simp
              try with_reducible rfl
            rotate_left
            · simp only [Act.put, List.setIfInBounds_toArray, List.set_cons_zero, List.set_cons_succ]
              rfl
            refine pure_ (i := 6) (N := some 41) (v := ?_) (a' := ?_) #[true, true, true, true, false, false, true, false, false, false, false, false, false, false] rfl rfl (any_of HT_.out (by kernel_rfl)) (fun _ _ _ h => h) (Or.inl ⟨by rfl, ?_⟩) ?_ ?_
            rotate_left
            · intro w'
              go_simp
              try with_reducible rfl
            rotate_left
            · simp only [Act.put, List.setIfInBounds_toArray, List.set_cons_zero, List.set_cons_succ]
              rfl
            refine pure_ (i := 7) (N := some 42) (v := ?_) (a' := ?_) #[true, true, true, true, false, false, true, true, false, false, false, false, false, false] rfl rfl (any_of HT_.out (by kernel_rfl)) (fun _ _ _ h => h) (Or.inl ⟨by rfl, ?_⟩) ?_ ?_
            rotate_left
            · intro w'
              go_simp
              try with_reducible rfl
            rotate_left
            · simp only [Act.put, List.setIfInBounds_toArray, List.set_cons_zero, List.set_cons_succ]
              rfl
            refine pure_ (i := 4) (N := some 39) (v := ?_) (a' := ?_) #[true, true, true, true, true, false, true, true, false, false, false, false, false, false] rfl rfl (any_of HT_.out (by kernel_rfl)) (fun _ _ _ h => h) (Or.inl ⟨by rfl, ?_⟩) ?_ ?_
            rotate_left
            · intro w'
              go_simp
              try with_reducible rfl
            rotate_left
            · simp only [Act.put, List.setIfInBounds_toArray, List.set_cons_zero, List.set_cons_succ]
              rfl
            refine pure_ (i := 8) (N := some 43) (v := ?_) (a' := ?_) #[true, true, true, true, true, false, true, true, true, false, false, false, false, false] rfl rfl (any_of HT_.out (by kernel_rfl)) (fun _ _ _ h => h) (Or.inl ⟨by rfl, ?_⟩) ?_ ?_
            rotate_left
            · intro w'
              go_simp
              try with_reducible rfl
            rotate_left
            · simp only [Act.put, List.setIfInBounds_toArray, List.set_cons_zero, List.set_cons_succ]
              rfl
            refine pure_ (i := 9) (N := some 44) (v := ?_) (a' := ?_) #[true, true, true, true, true, false, true, true, true, true, false, false, false, false] rfl rfl (any_of HT_.out (by kernel_rfl)) (fun _ _ _ h => h) (Or.inl ⟨by rfl, ?_⟩) ?_ ?_
            rotate_left
            · intro w'
              go_simp
              try with_reducible rfl
            rotate_left
            · simp only [Act.put, List.setIfInBounds_toArray, List.set_cons_zero, List.set_cons_succ]
              rfl
            refine take_ (i := 5) (N := some 40) (v := ?_) (a' := ?_) #[true, true, true, true, true, true, true, true, true, true, false, false, false, false] rfl rfl (take_ofW HT_.out HW_.out (by kernel_rfl)) (fun _ _ _ h => h) (Or.inl ⟨by rfl, ?_⟩) hHeld ?_ ?_
            rotate_left
            · intro w' hS'
              have d0 := (hS'.cell (World.block_lt_of_cell? _ _ D0.out)).trans D0.out
              go_simp
              try with_reducible rfl
            rotate_left
            · simp only [Act.put, List.setIfInBounds_toArray, List.set_cons_zero, List.set_cons_succ]
              rfl
            refine take_ (i := 10) (N := some 45) (v := ?_) (a' := ?_) #[true, true, true, true, true, true, true, true, true, true, true, false, false, false] rfl rfl (take_ofW HT_.out HW_.out (by kernel_rfl)) (fun _ _ _ h => h) (Or.inl ⟨by rfl, ?_⟩) hHeld ?_ ?_
            rotate_left
            · intro w' hS'
              have d0 := (hS'.cell (World.block_lt_of_cell? _ _ E1.out)).trans E1.out
              go_simp
              try with_reducible rfl
            rotate_left
            · simp only [Act.put, List.setIfInBounds_toArray, List.set_cons_zero, List.set_cons_succ]
              rfl
            refine pure_ (i := 11) (N := some 46) (v := ?_) (a' := ?_) #[true, true, true, true, true, true, true, true, true, true, true, true, false, false] rfl rfl (any_of HT_.out (by kernel_rfl)) (fun _ _ _ h => h) (Or.inl ⟨by rfl, ?_⟩) ?_ ?_
            rotate_left
            · intro w'
              go_simp
              try with_reducible rfl
            rotate_left
            · simp only [Act.put, List.setIfInBounds_toArray, List.set_cons_zero, List.set_cons_succ]
              rfl
            refine pure_ (i := 12) (N := some 47) (v := ?_) (a' := ?_) #[true, true, true, true, true, true, true, true, true, true, true, true, true, false] rfl rfl (any_of HT_.out (by kernel_rfl)) (fun _ _ _ h => h) (Or.inl ⟨by rfl, ?_⟩) ?_ ?_
            rotate_left
            · intro w'
              go_simp
              try with_reducible rfl
            rotate_left
            · simp only [Act.put, List.setIfInBounds_toArray, List.set_cons_zero, List.set_cons_succ]
              rfl
            refine pure_ (i := 13) (N := some 10) (v := ?_) (a' := ?_) #[true, true, true, true, true, true, true, true, true, true, true, true, true, true] rfl rfl (any_of HT_.out (by kernel_rfl)) (fun _ _ _ h => h) (Or.inl ⟨by rfl, ?_⟩) ?_ ?_
            rotate_left
            · intro w'
              go_simp
              try with_reducible rfl
            rotate_left
            · simp only [Act.put, List.setIfInBounds_toArray, List.set_cons_zero, List.set_cons_succ]
              rfl
            refine done_ (done_of HT_.out (by kernel_rfl)) ?_
            have HB7 := Aside0.mk hHeld
            clear hHeld HT_ HW_
            go_wp2_with fail
            go_roundw
            case rel => exact ⟨k + 1, by omega, by go_num, by rw [HTK.out, str_beq]; rfl, ⟨BI.out.trans (HB7.out.mono BI.out.size)⟩⟩
            case measure => simp [intOf]; omega
        · obtain rfl : k = ks.length := by omega
          rw [List.take_length]
          have e1 := E1.out
          have HRI := Aside0.mk (Kd.R_below BS.out.1 BI.out)
          have n40 : ¬ (40 : Int) < (ks.length : Int) := by omega
          by_cases hin : hasK ks x.key = true
          · have hd := hin
            rw [hd]
            have HKS2 := Aside0.mk (show keysOf (l.take (j + 1)) = ks from by rw [HKS.out, addK, if_pos hin])
            clear hd hin
            go_wp2_with fail
            go_roundw
            case rel => exact ⟨j + 1, by omega, by go_num, by rw [HKS2.out]; exact ⟨HRI.out, hks40, HBI.out⟩⟩
            case measure => simp [intOf]; omega
          · have hd : hasK ks x.key = false := by simpa using hin
            rw [hd]
            have HKS2 := Aside0.mk (show keysOf (l.take (j + 1)) = ks ++ [x.key] from by rw [HKS.out, addK, if_neg hin])
            clear hd hin
            have e41 : (ks ++ [x.key]).length = ks.length + 1 := by simp
            by_cases h40 : ks.length = 40
            · have n41 : (40 : Int) < ((ks.length + 1 : Nat) : Int) := by omega
              clear h40
              go_wp2_with (first | ((with_reducible refine gate_builtin (b := .append) (xs := #[.tmp 50, .tmp 56]) rfl ?_); at_builtin; refine Kd.R_append Kd.string (w0 := w1) w1.heap.size rfl (.tmp 50) (.tmp 56) 39 9 (.string ⟨#[]⟩) 16 rfl Try.underlying39 infoStr rfl (by decide) (by omega) (.slice A8 ks.length c8) ks x.key [.string x.key] (fun k => w1.heap.size ≤ k) (fun _ => False) rfl rfl rfl (fun _ hk => hk.elim) (fun k hk => Nat.le_trans HBI.out.size hk) HRI.out HBI.out HBI.out.size (by omega) ?_; intro v1 w4 ho hb hg hat; obtain ⟨A9, c9, e9⟩ := Kd.R_slice ho; subst e9; rw [e41] at ho ⊢; have HN1 := Aside0.mk (And.intro ho hb); clear ho hb hg hat HRI) | fail)
              have HB9 := Aside0.mk (HB1.out.trans (HN1.out.2.mono HB1.out.size))
              go_ret
              exact ⟨rfl, HB9.out⟩
            · have n41 : ¬ (40 : Int) < ((ks.length + 1 : Nat) : Int) := by omega
              go_wp2_with (first | ((with_reducible refine gate_builtin (b := .append) (xs := #[.tmp 50, .tmp 56]) rfl ?_); at_builtin; refine Kd.R_append Kd.string (w0 := w1) w1.heap.size rfl (.tmp 50) (.tmp 56) 39 9 (.string ⟨#[]⟩) 16 rfl Try.underlying39 infoStr rfl (by decide) (by omega) (.slice A8 ks.length c8) ks x.key [.string x.key] (fun k => w1.heap.size ≤ k) (fun _ => False) rfl rfl rfl (fun _ hk => hk.elim) (fun k hk => Nat.le_trans HBI.out.size hk) HRI.out HBI.out HBI.out.size (by omega) ?_; intro v1 w4 ho hb hg hat; obtain ⟨A9, c9, e9⟩ := Kd.R_slice ho; subst e9; rw [e41] at ho ⊢; have HN1 := Aside0.mk (And.intro ho hb); clear ho hb hg hat HRI) | fail)
              go_roundw
              case rel => exact ⟨j + 1, by omega, by go_num, by rw [HKS2.out]; exact ⟨HN1.out.1, by rw [e41]; omega, HN1.out.2⟩⟩
              case measure => simp [intOf]; omega
    · obtain rfl : j = l.length := by omega
      clear hlt hj
      rw [List.take_length] at BS
      have HMEM := Aside0.mk (show ∀ i, i < l.length → (rdRc l (i : Int)).key ∈ keysOf l from fun i hi => by
        have h := keysOf_mem l l.length (Nat.le_refl _) i hi
        rwa [List.take_length] at h)
      generalize keysOf l = ks at BS HMEM
      obtain ⟨A8, c8, e8⟩ := Kd.R_slice BS.out.1
      subst e8
      have HGR := Aside0.mk ((BS.out.2.2.block _ (Array.getElem?_eq_some_iff.1 HG1.out).1).trans HG1.out)
      have HBR := Aside0.mk (HB1.out.trans (BS.out.2.2.mono HB1.out.size))
      clear BS HG1 HB1
      obtain ⟨kk, hkk⟩ : ∃ kk, (if keys < (ks.length : Int) then (ks.length : Int) else keys) = kk := ⟨_, rfl⟩
      have HKK := Aside0.mk (show (ks.length : Int) ≤ kk from by rw [← hkk]; split <;> omega)
      have HNK := Aside0.mk (fun w' => HNEW.out w' kk)
      have HKP := Aside0.mk (show (ks.length : Int) ≤ Pol.keys ⟨kind, cap, num, den, width, count, kk, slots, every, seg⟩ from HKK.out)
      obtain ⟨P0, hP0⟩ : ∃ P0 : Pol, (⟨kind, cap, num, den, width, count, kk, slots, every, seg⟩ : Pol) = P0 := ⟨_, rfl⟩
      obtain ⟨er, her⟩ : ∃ er, Pol.E ⟨kind, cap, num, den, width, count, kk, slots, every, seg⟩ = er := ⟨_, rfl⟩
      have HNP := Aside0.mk (show ∀ w', Calls Try.prog 26 #[.agg #[.int .i64 kind, .int .i64 cap, .int .i64 num, .int .i64 den, .int .i64 width, .int .i64 count, .int .i64 kk, .int .i64 slots, .int .i64 every, .int .i64 seg]] w' (NewLPost w' P0 er) from fun w' => by
        have h := HNK.out w'
        rw [her, hP0] at h
        subst hP0
        exact h)
      rw [hP0] at HKP
      have HER := Aside0.mk her
      rw [hP0] at HER
      have HGS := Aside0.mk (show (wr.setCell ⟨w.heap.size, 6, none⟩ (.int .i64 kk)).heap[w.heap.size]? = some (.cells #[.int .i64 kind, .int .i64 cap, .int .i64 num, .int .i64 den, .int .i64 width, .int .i64 count, .int .i64 kk, .int .i64 slots, .int .i64 every, .int .i64 seg] 23 (0, 0)) from (heap_setCell_same (o := 6) HGR.out _).trans rfl)
      have HBS := Aside0.mk (show Below w.heap.size w (wr.setCell ⟨w.heap.size, 6, none⟩ (.int .i64 kk)) from HBR.out.setCell (p := ⟨w.heap.size, 6, none⟩) (Nat.le_refl _) _)
      have c6 : wr.cell? ⟨w.heap.size, 6, none⟩ = some (.int .i64 keys) := by rw [cell_of_row wr _ 6 _ _ _ HGR.out]; rfl
      have f6 : wr.frozen? ⟨w.heap.size, 6, none⟩ = false := blk_frozen HGR.out 6
      clear HNEW HNK HGR HBR HKK hP0 her
      go_wp2_with (first | ((with_reducible refine gload 23 rfl ?_); refine wpList_load_blk rfl 23 _ rfl w.heap.size _ 23 _ rfl HGS.out _ Try.underlying23 rfl infoPol ?_) | fail)
      obtain ⟨W3, hW3⟩ : ∃ W3, wr.setCell ⟨w.heap.size, 6, none⟩ (.int .i64 kk) = W3 := ⟨_, rfl⟩
      rw [hW3] at HGS HBS ⊢
      clear hW3 c6 f6 hkk
      refine (HNP.out _).mono ?_
      intro e w4 hpost
      rcases hpost with ⟨h0, lx, sx, mx, rfl, h1, h2, h3, hl, hb⟩ | ⟨h0, rfl, hb⟩
      case inr =>
        have hne : decide (er = 0) = false := decide_eq_false h0
        have HB4 := Aside0.mk (HBS.out.trans (hb.mono HBS.out.size))
        have HG4 := Aside0.mk ((hb.block _ (Array.getElem?_eq_some_iff.1 HGS.out).1).trans HGS.out)
        clear hb HER HSS HR HGS HBS
        go_wp2_with (first | ((with_reducible refine gload 23 rfl ?_); refine wpList_load_blk rfl 23 _ rfl w.heap.size _ 23 _ rfl HG4.out _ Try.underlying23 rfl infoPol ?_) | fail)
        refine (HNP.out _).mono ?_
        intro e w5 hpost
        rcases hpost with ⟨h0', _⟩ | ⟨_, rfl, hb⟩
        case inl => exact absurd h0' h0
        have HB5 := Aside0.mk (HB4.out.trans (hb.mono HB4.out.size))
        clear hb HNP
        go_wp2_with fail
        go_ret
        exact ⟨rfl, HB5.out⟩
      subst h0
      have hs3 := HBS.out.size
      have HOK := Aside0.mk (show P0.ok from HER.out)
      have HLX4 := Aside0.mk (show LimI w.heap.size w4 lx sx mx P0 ⟨0, []⟩ from ⟨hl, new_ok HOK.out, by omega, by omega, by omega⟩)
      have HB4 := Aside0.mk (HBS.out.trans (hb.mono hs3))
      have HG4 := Aside0.mk ((hb.block _ (Array.getElem?_eq_some_iff.1 HGS.out).1).trans HGS.out)
      clear hb hl h1 h2 h3 hs3 HBS HGS HER
      go_wp2_with (first | ((with_reducible refine gload 23 rfl ?_); refine wpList_load_blk rfl 23 _ rfl w.heap.size _ 23 _ rfl HG4.out _ Try.underlying23 rfl infoPol ?_) | fail)
      refine (HNP.out _).mono ?_
      intro e w5 hpost
      rcases hpost with ⟨_, ly, sy, my, rfl, h1, h2, h3, hl, hb⟩ | ⟨h0', _⟩
      case inr => exact absurd rfl h0'
      have hs4 := HB4.out.size
      have HLX5 := Aside0.mk (HLX4.out.below hb)
      have HLY5 := Aside0.mk (show LimI w.heap.size w5 ly sy my P0 ⟨0, []⟩ from ⟨hl, new_ok HOK.out, by omega, by omega, by omega⟩)
      have HNE := Aside0.mk (show sx ≠ sy ∧ mx ≠ my from ⟨by have := HLX4.out.lim.led.lt_sb; omega, by have := HLX4.out.lim.led.lt_mb; omega⟩)
      have HB5 := Aside0.mk (HB4.out.trans (hb.mono hs4))
      have HF0 := Aside0.mk (fair_start HOK.out key HKP.out)
      clear hb hl h1 h2 h3 hs4 HB4 HG4 HLX4 HNP HOK HKP
      go_wp2_with fail
      go_loopw [16] (fun i wr => ∃ j : Nat, j ≤ l.length ∧ j ≤ 300 ∧ i = .int .i64 (j : Int) ∧ ∃ X Y : LSt, Aside0 (Fair P0 key ks X Y ∧ LimI w.heap.size wr lx sx mx P0 X ∧ LimI w.heap.size wr ly sy my P0 Y ∧ X.rows.length ≤ j ∧ Y.rows.length ≤ j ∧ Below w.heap.size w wr ∧ w.heap.size ≤ wr.heap.size)) (fun i _ => 300 - (intOf i).toNat)
      case atStart => exact ⟨0, by omega, by omega, rfl, ⟨0, []⟩, ⟨0, []⟩, ⟨HF0.out, HLX5.out, HLY5.out, Nat.le_refl _, Nat.le_refl _, HB5.out, HB5.out.size⟩⟩
      case round =>
        obtain ⟨W, rfl⟩ : ∃ W, W = wr := ⟨_, rfl⟩
        obtain ⟨j, hj, hj3, rfl, X, Y, BS⟩ := hrel
        clear HLX5 HLY5 HB5 HF0
        by_cases hlt : j < l.length ∧ j < 300
        · obtain ⟨hlt, h300⟩ := hlt
          obtain ⟨ad, eA, c0, c1, c2, c3⟩ := atRc HR.out (j : Int) (by omega) (by omega)
          subst eA
          simp only [Int.toNat_natCast] at c0 c1 c2 c3
          have i0 : (0 : Int) ≤ (j : Int) := by omega
          have i1 : (j : Int) < (l.length : Int) := by omega
          have i3 : (j : Int) < 300 := by omega
          have HSZ := Aside0.mk (HSS.out _ (mem_rd l j hlt))
          have HMJ := Aside0.mk (HMEM.out j hlt)
          generalize rdRc l (j : Int) = x at c0 c1 c2 c3 HSZ HMJ
          have C0 := Aside0.mk c0
          have C1 := Aside0.mk c1
          have C2 := Aside0.mk c2
          clear c0 c1 c2 c3
          obtain ⟨hF, hX, hY, hXl, hYl, hB, hN⟩ := BS.out
          have HF := Aside0.mk hF
          have HL_lx := Aside0.mk hX
          have HY := Aside0.mk hY
          have HXL := Aside0.mk hXl
          have HYL := Aside0.mk hYl
          have HLEN_lx := Aside0.mk (show X.rows.length ≤ 100000 from by omega)
          have HLEN_ly := Aside0.mk (show Y.rows.length ≤ 100000 from by omega)
          have BA := Aside0.mk hB
          have HN_ := Aside0.mk hN
          have cl : W.cell? ⟨lx, 0, none⟩ = some (.pointer (some ⟨sx, 0, none⟩)) := by rw [cell_of_row W _ 0 _ _ _ hX.lim.top]; rfl
          clear hF hX hY hXl hYl hB hN BS
          go_wp2_with fail
          refine (Now_fn _ sx mx P0 X.tick X.rows HL_lx.out.lim.led).mono ?_
          rintro e w6 ⟨rfl, hw⟩
          rw [hw]
          clear hw w6 cl
          go_wp2_with fail
          refine start_ (n := 22) (S := Below w.heap.size w) (ds := []) #[false, false, false, false, false, false, false, false, false, false, false, false, false, false, false, false, false, false, false, false, false, false] (by kernel_rfl) rfl rfl (BA.out.drew) (fun hHeld => ?_); refine with_tabW fair__tab24 fair__bits24 (fun HT_ HW_ => ?_)
          refine pure_ (i := 0) (N := some 118) (v := ?_) (a' := ?_) #[true, false, false, false, false, false, false, false, false, false, false, false, false, false, false, false, false, false, false, false, false, false] rfl rfl (any_of HT_.out (by kernel_rfl)) (fun _ _ _ h => h) (Or.inl ⟨by rfl, ?_⟩) ?_ ?_
          rotate_left
          · intro w'
            go_simp
            try with_reducible rfl
          rotate_left
          · simp only [Act.put, List.setIfInBounds_toArray, List.set_cons_zero, List.set_cons_succ]
            rfl
          refine pure_ (i := 1) (N := some 119) (v := ?_) (a' := ?_) #[true, true, false, false, false, false, false, false, false, false, false, false, false, false, false, false, false, false, false, false, false, false] rfl rfl (any_of HT_.out (by kernel_rfl)) (fun _ _ _ h => h) (Or.inl ⟨by rfl, ?_⟩) ?_ ?_
          rotate_left
          · intro w'
            go_simp
            try with_reducible rfl
          rotate_left
          · simp only [Act.put, List.setIfInBounds_toArray, List.set_cons_zero, List.set_cons_succ]
            rfl
          refine pure_ (i := 2) (N := some 120) (v := ?_) (a' := ?_) #[true, true, true, false, false, false, false, false, false, false, false, false, false, false, false, false, false, false, false, false, false, false] rfl rfl (any_of HT_.out (by kernel_rfl)) (fun _ _ _ h => h) (Or.inl ⟨by rfl, ?_⟩) ?_ ?_
          rotate_left
          · intro w'
            go_simp
            try with_reducible rfl
          rotate_left
          · simp only [Act.put, List.setIfInBounds_toArray, List.set_cons_zero, List.set_cons_succ]
            rfl
          refine pure_ (i := 6) (N := some 124) (v := ?_) (a' := ?_) #[true, true, true, false, false, false, true, false, false, false, false, false, false, false, false, false, false, false, false, false, false, false] rfl rfl (any_of HT_.out (by kernel_rfl)) (fun _ _ _ h => h) (Or.inl ⟨by rfl, ?_⟩) ?_ ?_
          rotate_left
          · intro w'
            go_simp
            try with_reducible rfl
          rotate_left
          · simp only [Act.put, List.setIfInBounds_toArray, List.set_cons_zero, List.set_cons_succ]
            rfl
          refine pure_ (i := 7) (N := some 125) (v := ?_) (a' := ?_) #[true, true, true, false, false, false, true, true, false, false, false, false, false, false, false, false, false, false, false, false, false, false] rfl rfl (any_of HT_.out (by kernel_rfl)) (fun _ _ _ h => h) (Or.inl ⟨by rfl, ?_⟩) ?_ ?_
          rotate_left
          · intro w'
            go_simp
            try with_reducible rfl
          rotate_left
          · simp only [Act.put, List.setIfInBounds_toArray, List.set_cons_zero, List.set_cons_succ]
            rfl
          refine pure_ (i := 11) (N := some 129) (v := ?_) (a' := ?_) #[true, true, true, false, false, false, true, true, false, false, false, true, false, false, false, false, false, false, false, false, false, false] rfl rfl (any_of HT_.out (by kernel_rfl)) (fun _ _ _ h => h) (Or.inl ⟨by rfl, ?_⟩) ?_ ?_
          rotate_left
          · intro w'
            go_simp
            try with_reducible rfl
          rotate_left
          · simp only [Act.put, List.setIfInBounds_toArray, List.set_cons_zero, List.set_cons_succ]
            rfl
          refine pure_ (i := 12) (N := some 130) (v := ?_) (a' := ?_) #[true, true, true, false, false, false, true, true, false, false, false, true, true, false, false, false, false, false, false, false, false, false] rfl rfl (any_of HT_.out (by kernel_rfl)) (fun _ _ _ h => h) (Or.inl ⟨by rfl, ?_⟩) ?_ ?_
          rotate_left
          · intro w'
            go_simp
            try with_reducible rfl
          rotate_left
          · simp only [Act.put, List.setIfInBounds_toArray, List.set_cons_zero, List.set_cons_succ]
            rfl
          refine pure_ (i := 3) (N := some 121) (v := ?_) (a' := ?_) #[true, true, true, true, false, false, true, true, false, false, false, true, true, false, false, false, false, false, false, false, false, false] rfl rfl (any_of HT_.out (by kernel_rfl)) (fun _ _ _ h => h) (Or.inl ⟨by rfl, ?_⟩) ?_ ?_
          rotate_left
          · intro w'
            go_simp
            try with_reducible rfl
          rotate_left
          · simp only [Act.put, List.setIfInBounds_toArray, List.set_cons_zero, List.set_cons_succ]
            rfl
          refine pure_ (i := 8) (N := some 126) (v := ?_) (a' := ?_) #[true, true, true, true, false, false, true, true, true, false, false, true, true, false, false, false, false, false, false, false, false, false] rfl rfl (any_of HT_.out (by kernel_rfl)) (fun _ _ _ h => h) (Or.inl ⟨by rfl, ?_⟩) ?_ ?_
          rotate_left
          · intro w'
            go_simp
            try with_reducible rfl
          rotate_left
          · simp only [Act.put, List.setIfInBounds_toArray, List.set_cons_zero, List.set_cons_succ]
            rfl
          refine pure_ (i := 13) (N := some 131) (v := ?_) (a' := ?_) #[true, true, true, true, false, false, true, true, true, false, false, true, true, true, false, false, false, false, false, false, false, false] rfl rfl (any_of HT_.out (by kernel_rfl)) (fun _ _ _ h => h) (Or.inl ⟨by rfl, ?_⟩) ?_ ?_
          rotate_left
          · intro w'
            go_simp
            try with_reducible rfl
          rotate_left
          · simp only [Act.put, List.setIfInBounds_toArray, List.set_cons_zero, List.set_cons_succ]
            rfl
          refine pure_ (i := 4) (N := some 122) (v := ?_) (a' := ?_) #[true, true, true, true, true, false, true, true, true, false, false, true, true, true, false, false, false, false, false, false, false, false] rfl rfl (any_of HT_.out (by kernel_rfl)) (fun _ _ _ h => h) (Or.inl ⟨by rfl, ?_⟩) ?_ ?_
          rotate_left
          · intro w'
            go_simp
            try with_reducible rfl
          rotate_left
          · simp only [Act.put, List.setIfInBounds_toArray, List.set_cons_zero, List.set_cons_succ]
            rfl
          refine pure_ (i := 9) (N := some 127) (v := ?_) (a' := ?_) #[true, true, true, true, true, false, true, true, true, true, false, true, true, true, false, false, false, false, false, false, false, false] rfl rfl (any_of HT_.out (by kernel_rfl)) (fun _ _ _ h => h) (Or.inl ⟨by rfl, ?_⟩) ?_ ?_
          rotate_left
          · intro w'
            go_simp
            try with_reducible rfl
          rotate_left
          · simp only [Act.put, List.setIfInBounds_toArray, List.set_cons_zero, List.set_cons_succ]
            rfl
          refine pure_ (i := 14) (N := some 132) (v := ?_) (a' := ?_) #[true, true, true, true, true, false, true, true, true, true, false, true, true, true, true, false, false, false, false, false, false, false] rfl rfl (any_of HT_.out (by kernel_rfl)) (fun _ _ _ h => h) (Or.inl ⟨by rfl, ?_⟩) ?_ ?_
          rotate_left
          · intro w'
            go_simp
            try with_reducible rfl
          rotate_left
          · simp only [Act.put, List.setIfInBounds_toArray, List.set_cons_zero, List.set_cons_succ]
            rfl
          refine take_ (i := 5) (N := some 123) (v := ?_) (a' := ?_) #[true, true, true, true, true, true, true, true, true, true, false, true, true, true, true, false, false, false, false, false, false, false] rfl rfl (take_ofW HT_.out HW_.out (by kernel_rfl)) (fun _ _ _ h => h) (Or.inl ⟨by rfl, ?_⟩) hHeld ?_ ?_
          rotate_left
          · intro w' hS'
            have d0 := (hS'.cell (World.block_lt_of_cell? _ _ C0.out)).trans C0.out
            go_simp
            try with_reducible rfl
          rotate_left
          · simp only [Act.put, List.setIfInBounds_toArray, List.set_cons_zero, List.set_cons_succ]
            rfl
          refine take_ (i := 10) (N := some 128) (v := ?_) (a' := ?_) #[true, true, true, true, true, true, true, true, true, true, true, true, true, true, true, false, false, false, false, false, false, false] rfl rfl (take_ofW HT_.out HW_.out (by kernel_rfl)) (fun _ _ _ h => h) (Or.inl ⟨by rfl, ?_⟩) hHeld ?_ ?_
          rotate_left
          · intro w' hS'
            have d0 := (hS'.cell (World.block_lt_of_cell? _ _ C1.out)).trans C1.out
            go_simp
            try with_reducible rfl
          rotate_left
          · simp only [Act.put, List.setIfInBounds_toArray, List.set_cons_zero, List.set_cons_succ]
            rfl
          refine take_ (i := 15) (N := some 133) (v := ?_) (a' := ?_) #[true, true, true, true, true, true, true, true, true, true, true, true, true, true, true, true, false, false, false, false, false, false] rfl rfl (take_ofW HT_.out HW_.out (by kernel_rfl)) (fun _ _ _ h => h) (Or.inl ⟨by rfl, ?_⟩) hHeld ?_ ?_
          rotate_left
          · intro w' hS'
            have d0 := (hS'.cell (World.block_lt_of_cell? _ _ C2.out)).trans C2.out
            go_simp
            try with_reducible rfl
          rotate_left
          · simp only [Act.put, List.setIfInBounds_toArray, List.set_cons_zero, List.set_cons_succ]
            rfl
          refine one_ (i := 16) (N := some 134) #[true, true, true, true, true, true, true, true, true, true, true, true, true, true, true, true, true, false, false, false, false, false] rfl rfl (one_of HT_.out (by kernel_rfl)) (by decide) (fun K hK => ?_)
          refine goes_ Try.func27 (by kernel_rfl) rfl #[.pointer (some ⟨lx, 0, none⟩), .int .i64 x.t, .string x.key, .int .i64 x.c] (by rfl) rfl rfl (by simp [Act.eval]) ?_
          refine (AskI_fn w.heap.size w _ lx sx mx _ _ x.t x.key x.c (HL_lx.out.below ((Below.refl _ _).drew)) (by exact HN_.out) hHeld HSZ.out HLEN_lx.out).mono ?_
          rintro e w7 ⟨rfl, hl7, hb7, hn7, hk7⟩
          refine ⟨_, rfl, ?_⟩
          simp only [Act.put, List.setIfInBounds_toArray, List.set_cons_zero, List.set_cons_succ]
          have HQ := Aside0.mk (And.intro hl7 (And.intro hb7 (And.intro hn7 hk7)))
          clear hl7 hn7 hk7
          refine hK.out _ _ (hb7) (fun hHeld => ?_)
          clear hK K
          refine pure_ (i := 17) (N := some 117) (v := ?_) (a' := ?_) #[true, true, true, true, true, true, true, true, true, true, true, true, true, true, true, true, true, true, false, false, false, false] rfl rfl (any_of HT_.out (by kernel_rfl)) (fun _ _ _ h => h) (Or.inl ⟨by rfl, ?_⟩) ?_ ?_
          rotate_left
          · intro w'
            go_simp
            try with_reducible rfl
          rotate_left
          · simp only [Act.put, List.setIfInBounds_toArray, List.set_cons_zero, List.set_cons_succ]
            rfl
          refine pure_ (i := 18) (N := some 135) (v := ?_) (a' := ?_) #[true, true, true, true, true, true, true, true, true, true, true, true, true, true, true, true, true, true, true, false, false, false] rfl rfl (any_of HT_.out (by kernel_rfl)) (fun _ _ _ h => h) (Or.inl ⟨by rfl, ?_⟩) ?_ ?_
          rotate_left
          · intro w'
            go_simp
            try with_reducible rfl
          rotate_left
          · simp only [Act.put, List.setIfInBounds_toArray, List.set_cons_zero, List.set_cons_succ]
            rfl
          refine pure_ (i := 19) (N := some 136) (v := ?_) (a' := ?_) #[true, true, true, true, true, true, true, true, true, true, true, true, true, true, true, true, true, true, true, true, false, false] rfl rfl (any_of HT_.out (by kernel_rfl)) (fun _ _ _ h => h) (Or.inl ⟨by rfl, ?_⟩) ?_ ?_
          rotate_left
          · intro w'
            go_simp
            try with_reducible rfl
          rotate_left
          · simp only [Act.put, List.setIfInBounds_toArray, List.set_cons_zero, List.set_cons_succ]
            rfl
          refine pure_ (i := 20) (N := some 18) (v := ?_) (a' := ?_) #[true, true, true, true, true, true, true, true, true, true, true, true, true, true, true, true, true, true, true, true, true, false] rfl rfl (any_of HT_.out (by kernel_rfl)) (fun _ _ _ h => h) (Or.inl ⟨by rfl, ?_⟩) ?_ ?_
          rotate_left
          · intro w'
            go_simp
            try with_reducible rfl
          rotate_left
          · simp only [Act.put, List.setIfInBounds_toArray, List.set_cons_zero, List.set_cons_succ]
            rfl
          refine pure_ (i := 21) (N := some 19) (v := ?_) (a' := ?_) #[true, true, true, true, true, true, true, true, true, true, true, true, true, true, true, true, true, true, true, true, true, true] rfl rfl (any_of HT_.out (by kernel_rfl)) (fun _ _ _ h => h) (Or.inl ⟨by rfl, ?_⟩) ?_ ?_
          rotate_left
          · intro w'
            go_simp
            try with_reducible rfl
          rotate_left
          · simp only [Act.put, List.setIfInBounds_toArray, List.set_cons_zero, List.set_cons_succ]
            rfl
          refine done_ (done_of HT_.out (by kernel_rfl)) ?_
          clear hHeld HT_ HW_
          have HX7 := Aside0.mk HQ.out.1
          have HY7 := Aside0.mk ((HY.out.below ((Below.refl _ _).drew)).beside (HL_lx.out.below ((Below.refl _ _).drew)) (fun e => HNE.out.1 e.symm) (fun e => HNE.out.2 e.symm) HQ.out.2.2.2)
          have HB7 := Aside0.mk HQ.out.2.1
          have HN7 := Aside0.mk HQ.out.2.2.1
          have HXL7 := Aside0.mk (Nat.le_trans (askS_length (p := P0) (s := X) x.t x.key x.c) (Nat.succ_le_succ HXL.out))
          clear HQ HL_lx HY BA HN_ HLEN_lx
          by_cases hg : askE X x.t x.key x.c = 0
          · have HV := Aside0.mk (HF.out.roomy (c := x.c) (t := x.t) HMJ.out hg)
            by_cases hkey : x.key = key
            · have hown : askE Y x.t x.key x.c = 0 ∧ askV P0 X x.t x.key x.c = askV P0 Y x.t x.key x.c ∧ Fair P0 key ks (askS P0 X x.t x.key x.c) (askS P0 Y x.t x.key x.c) := by
                have h := HF.out.own (c := x.c) (t := x.t) (by rw [← hkey]; exact HMJ.out) (by rw [← hkey]; exact hg)
                rw [hkey]
                exact h
              have HO := Aside0.mk hown
              rw [hg]
              generalize askS P0 X x.t x.key x.c = X2 at HX7 HXL7 HO
              generalize hVx : askV P0 X x.t x.key x.c = v at HV HO
              have hv : ¬ v = 2 := HV.out
              have e1 := (HB7.out.cell (World.block_lt_of_cell? w _ C1.out)).trans C1.out
              have hks : (x.key.toList == key.toList) = true := by rw [hkey]; simp
              obtain ⟨HL_ly⟩ := HY7
              have HL_ly := Aside0.mk HL_ly
              have BA := Aside0.mk HB7.out
              have HN_ := Aside0.mk HN7.out
              have HKEY := Aside0.mk hkey
              clear hVx hg hown HXL HF HB7 HN7 hkey
              go_wp2_with fail
              refine start_ (n := 22) (S := Below w.heap.size w) (ds := []) #[false, false, false, false, false, false, false, false, false, false, false, false, false, false, false, false, false, false, false, false, false, false] (by kernel_rfl) rfl rfl (BA.out.drew) (fun hHeld => ?_); refine with_tabW fair__tab29 fair__bits29 (fun HT_ HW_ => ?_)
              refine pure_ (i := 0) (N := some 162) (v := ?_) (a' := ?_) #[true, false, false, false, false, false, false, false, false, false, false, false, false, false, false, false, false, false, false, false, false, false] rfl rfl (any_of HT_.out (by kernel_rfl)) (fun _ _ _ h => h) (Or.inl ⟨by rfl, ?_⟩) ?_ ?_
              rotate_left
              · intro w'
                go_simp
                try with_reducible rfl
              rotate_left
              · simp only [Act.put, List.setIfInBounds_toArray, List.set_cons_zero, List.set_cons_succ]
                rfl
              refine pure_ (i := 1) (N := some 163) (v := ?_) (a' := ?_) #[true, true, false, false, false, false, false, false, false, false, false, false, false, false, false, false, false, false, false, false, false, false] rfl rfl (any_of HT_.out (by kernel_rfl)) (fun _ _ _ h => h) (Or.inl ⟨by rfl, ?_⟩) ?_ ?_
              rotate_left
              · intro w'
                go_simp
                try with_reducible rfl
              rotate_left
              · simp only [Act.put, List.setIfInBounds_toArray, List.set_cons_zero, List.set_cons_succ]
                rfl
              refine pure_ (i := 2) (N := some 164) (v := ?_) (a' := ?_) #[true, true, true, false, false, false, false, false, false, false, false, false, false, false, false, false, false, false, false, false, false, false] rfl rfl (any_of HT_.out (by kernel_rfl)) (fun _ _ _ h => h) (Or.inl ⟨by rfl, ?_⟩) ?_ ?_
              rotate_left
              · intro w'
                go_simp
                try with_reducible rfl
              rotate_left
              · simp only [Act.put, List.setIfInBounds_toArray, List.set_cons_zero, List.set_cons_succ]
                rfl
              refine pure_ (i := 6) (N := some 168) (v := ?_) (a' := ?_) #[true, true, true, false, false, false, true, false, false, false, false, false, false, false, false, false, false, false, false, false, false, false] rfl rfl (any_of HT_.out (by kernel_rfl)) (fun _ _ _ h => h) (Or.inl ⟨by rfl, ?_⟩) ?_ ?_
              rotate_left
              · intro w'
                go_simp
                try with_reducible rfl
              rotate_left
              · simp only [Act.put, List.setIfInBounds_toArray, List.set_cons_zero, List.set_cons_succ]
                rfl
              refine pure_ (i := 7) (N := some 169) (v := ?_) (a' := ?_) #[true, true, true, false, false, false, true, true, false, false, false, false, false, false, false, false, false, false, false, false, false, false] rfl rfl (any_of HT_.out (by kernel_rfl)) (fun _ _ _ h => h) (Or.inl ⟨by rfl, ?_⟩) ?_ ?_
              rotate_left
              · intro w'
                go_simp
                try with_reducible rfl
              rotate_left
              · simp only [Act.put, List.setIfInBounds_toArray, List.set_cons_zero, List.set_cons_succ]
                rfl
              refine pure_ (i := 11) (N := some 173) (v := ?_) (a' := ?_) #[true, true, true, false, false, false, true, true, false, false, false, true, false, false, false, false, false, false, false, false, false, false] rfl rfl (any_of HT_.out (by kernel_rfl)) (fun _ _ _ h => h) (Or.inl ⟨by rfl, ?_⟩) ?_ ?_
              rotate_left
              · intro w'
                go_simp
                try with_reducible rfl
              rotate_left
              · simp only [Act.put, List.setIfInBounds_toArray, List.set_cons_zero, List.set_cons_succ]
                rfl
              refine pure_ (i := 12) (N := some 174) (v := ?_) (a' := ?_) #[true, true, true, false, false, false, true, true, false, false, false, true, true, false, false, false, false, false, false, false, false, false] rfl rfl (any_of HT_.out (by kernel_rfl)) (fun _ _ _ h => h) (Or.inl ⟨by rfl, ?_⟩) ?_ ?_
              rotate_left
              · intro w'
                go_simp
                try with_reducible rfl
              rotate_left
              · simp only [Act.put, List.setIfInBounds_toArray, List.set_cons_zero, List.set_cons_succ]
                rfl
              refine pure_ (i := 3) (N := some 165) (v := ?_) (a' := ?_) #[true, true, true, true, false, false, true, true, false, false, false, true, true, false, false, false, false, false, false, false, false, false] rfl rfl (any_of HT_.out (by kernel_rfl)) (fun _ _ _ h => h) (Or.inl ⟨by rfl, ?_⟩) ?_ ?_
              rotate_left
              · intro w'
                go_simp
                try with_reducible rfl
              rotate_left
              · simp only [Act.put, List.setIfInBounds_toArray, List.set_cons_zero, List.set_cons_succ]
                rfl
              refine pure_ (i := 8) (N := some 170) (v := ?_) (a' := ?_) #[true, true, true, true, false, false, true, true, true, false, false, true, true, false, false, false, false, false, false, false, false, false] rfl rfl (any_of HT_.out (by kernel_rfl)) (fun _ _ _ h => h) (Or.inl ⟨by rfl, ?_⟩) ?_ ?_
              rotate_left
              · intro w'
                go_simp
                try with_reducible rfl
              rotate_left
              · simp only [Act.put, List.setIfInBounds_toArray, List.set_cons_zero, List.set_cons_succ]
                rfl
              refine pure_ (i := 13) (N := some 175) (v := ?_) (a' := ?_) #[true, true, true, true, false, false, true, true, true, false, false, true, true, true, false, false, false, false, false, false, false, false] rfl rfl (any_of HT_.out (by kernel_rfl)) (fun _ _ _ h => h) (Or.inl ⟨by rfl, ?_⟩) ?_ ?_
              rotate_left
              · intro w'
                go_simp
                try with_reducible rfl
              rotate_left
              · simp only [Act.put, List.setIfInBounds_toArray, List.set_cons_zero, List.set_cons_succ]
                rfl
              refine pure_ (i := 4) (N := some 166) (v := ?_) (a' := ?_) #[true, true, true, true, true, false, true, true, true, false, false, true, true, true, false, false, false, false, false, false, false, false] rfl rfl (any_of HT_.out (by kernel_rfl)) (fun _ _ _ h => h) (Or.inl ⟨by rfl, ?_⟩) ?_ ?_
              rotate_left
              · intro w'
                go_simp
                try with_reducible rfl
              rotate_left
              · simp only [Act.put, List.setIfInBounds_toArray, List.set_cons_zero, List.set_cons_succ]
                rfl
              refine pure_ (i := 9) (N := some 171) (v := ?_) (a' := ?_) #[true, true, true, true, true, false, true, true, true, true, false, true, true, true, false, false, false, false, false, false, false, false] rfl rfl (any_of HT_.out (by kernel_rfl)) (fun _ _ _ h => h) (Or.inl ⟨by rfl, ?_⟩) ?_ ?_
              rotate_left
              · intro w'
                go_simp
                try with_reducible rfl
              rotate_left
              · simp only [Act.put, List.setIfInBounds_toArray, List.set_cons_zero, List.set_cons_succ]
                rfl
              refine pure_ (i := 14) (N := some 176) (v := ?_) (a' := ?_) #[true, true, true, true, true, false, true, true, true, true, false, true, true, true, true, false, false, false, false, false, false, false] rfl rfl (any_of HT_.out (by kernel_rfl)) (fun _ _ _ h => h) (Or.inl ⟨by rfl, ?_⟩) ?_ ?_
              rotate_left
              · intro w'
                go_simp
                try with_reducible rfl
              rotate_left
              · simp only [Act.put, List.setIfInBounds_toArray, List.set_cons_zero, List.set_cons_succ]
                rfl
              refine take_ (i := 5) (N := some 167) (v := ?_) (a' := ?_) #[true, true, true, true, true, true, true, true, true, true, false, true, true, true, true, false, false, false, false, false, false, false] rfl rfl (take_ofW HT_.out HW_.out (by kernel_rfl)) (fun _ _ _ h => h) (Or.inl ⟨by rfl, ?_⟩) hHeld ?_ ?_
              rotate_left
              · intro w' hS'
                have d0 := (hS'.cell (World.block_lt_of_cell? _ _ C0.out)).trans C0.out
                go_simp
                try with_reducible rfl
              rotate_left
              · simp only [Act.put, List.setIfInBounds_toArray, List.set_cons_zero, List.set_cons_succ]
                rfl
              refine take_ (i := 10) (N := some 172) (v := ?_) (a' := ?_) #[true, true, true, true, true, true, true, true, true, true, true, true, true, true, true, false, false, false, false, false, false, false] rfl rfl (take_ofW HT_.out HW_.out (by kernel_rfl)) (fun _ _ _ h => h) (Or.inl ⟨by rfl, ?_⟩) hHeld ?_ ?_
              rotate_left
              · intro w' hS'
                have d0 := (hS'.cell (World.block_lt_of_cell? _ _ C1.out)).trans C1.out
                go_simp
                try with_reducible rfl
              rotate_left
              · simp only [Act.put, List.setIfInBounds_toArray, List.set_cons_zero, List.set_cons_succ]
                rfl
              refine take_ (i := 15) (N := some 177) (v := ?_) (a' := ?_) #[true, true, true, true, true, true, true, true, true, true, true, true, true, true, true, true, false, false, false, false, false, false] rfl rfl (take_ofW HT_.out HW_.out (by kernel_rfl)) (fun _ _ _ h => h) (Or.inl ⟨by rfl, ?_⟩) hHeld ?_ ?_
              rotate_left
              · intro w' hS'
                have d0 := (hS'.cell (World.block_lt_of_cell? _ _ C2.out)).trans C2.out
                go_simp
                try with_reducible rfl
              rotate_left
              · simp only [Act.put, List.setIfInBounds_toArray, List.set_cons_zero, List.set_cons_succ]
                rfl
              refine one_ (i := 16) (N := some 178) #[true, true, true, true, true, true, true, true, true, true, true, true, true, true, true, true, true, false, false, false, false, false] rfl rfl (one_of HT_.out (by kernel_rfl)) (by decide) (fun K hK => ?_)
              refine goes_ Try.func27 (by kernel_rfl) rfl #[.pointer (some ⟨ly, 0, none⟩), .int .i64 x.t, .string x.key, .int .i64 x.c] (by rfl) rfl rfl (by simp [Act.eval]) ?_
              refine (AskI_fn w.heap.size w _ ly sy my _ _ x.t x.key x.c (HL_ly.out.below ((Below.refl _ _).drew)) (by exact HN_.out) hHeld HSZ.out HLEN_ly.out).mono ?_
              rintro e w7 ⟨rfl, hl7, hb7, hn7, hk7⟩
              refine ⟨_, rfl, ?_⟩
              simp only [Act.put, List.setIfInBounds_toArray, List.set_cons_zero, List.set_cons_succ]
              have HQ := Aside0.mk (And.intro hl7 (And.intro hb7 (And.intro hn7 hk7)))
              clear hl7 hn7 hk7
              refine hK.out _ _ (hb7) (fun hHeld => ?_)
              clear hK K
              refine pure_ (i := 17) (N := some 161) (v := ?_) (a' := ?_) #[true, true, true, true, true, true, true, true, true, true, true, true, true, true, true, true, true, true, false, false, false, false] rfl rfl (any_of HT_.out (by kernel_rfl)) (fun _ _ _ h => h) (Or.inl ⟨by rfl, ?_⟩) ?_ ?_
              rotate_left
              · intro w'
                go_simp
                try with_reducible rfl
              rotate_left
              · simp only [Act.put, List.setIfInBounds_toArray, List.set_cons_zero, List.set_cons_succ]
                rfl
              refine pure_ (i := 18) (N := some 179) (v := ?_) (a' := ?_) #[true, true, true, true, true, true, true, true, true, true, true, true, true, true, true, true, true, true, true, false, false, false] rfl rfl (any_of HT_.out (by kernel_rfl)) (fun _ _ _ h => h) (Or.inl ⟨by rfl, ?_⟩) ?_ ?_
              rotate_left
              · intro w'
                go_simp
                try with_reducible rfl
              rotate_left
              · simp only [Act.put, List.setIfInBounds_toArray, List.set_cons_zero, List.set_cons_succ]
                rfl
              refine pure_ (i := 19) (N := some 180) (v := ?_) (a' := ?_) #[true, true, true, true, true, true, true, true, true, true, true, true, true, true, true, true, true, true, true, true, false, false] rfl rfl (any_of HT_.out (by kernel_rfl)) (fun _ _ _ h => h) (Or.inl ⟨by rfl, ?_⟩) ?_ ?_
              rotate_left
              · intro w'
                go_simp
                try with_reducible rfl
              rotate_left
              · simp only [Act.put, List.setIfInBounds_toArray, List.set_cons_zero, List.set_cons_succ]
                rfl
              refine pure_ (i := 20) (N := some 20) (v := ?_) (a' := ?_) #[true, true, true, true, true, true, true, true, true, true, true, true, true, true, true, true, true, true, true, true, true, false] rfl rfl (any_of HT_.out (by kernel_rfl)) (fun _ _ _ h => h) (Or.inl ⟨by rfl, ?_⟩) ?_ ?_
              rotate_left
              · intro w'
                go_simp
                try with_reducible rfl
              rotate_left
              · simp only [Act.put, List.setIfInBounds_toArray, List.set_cons_zero, List.set_cons_succ]
                rfl
              refine pure_ (i := 21) (N := some 21) (v := ?_) (a' := ?_) #[true, true, true, true, true, true, true, true, true, true, true, true, true, true, true, true, true, true, true, true, true, true] rfl rfl (any_of HT_.out (by kernel_rfl)) (fun _ _ _ h => h) (Or.inl ⟨by rfl, ?_⟩) ?_ ?_
              rotate_left
              · intro w'
                go_simp
                try with_reducible rfl
              rotate_left
              · simp only [Act.put, List.setIfInBounds_toArray, List.set_cons_zero, List.set_cons_succ]
                rfl
              refine done_ (done_of HT_.out (by kernel_rfl)) ?_
              clear hHeld HT_ HW_
              have HX9 := Aside0.mk ((HX7.out.below ((Below.refl _ _).drew)).beside (HL_ly.out.below ((Below.refl _ _).drew)) HNE.out.1 HNE.out.2 HQ.out.2.2.2)
              have HY9 := Aside0.mk HQ.out.1
              have HB9 := Aside0.mk HQ.out.2.1
              have HN9 := Aside0.mk HQ.out.2.2.1
              have HYL9 := Aside0.mk (Nat.le_trans (askS_length (p := P0) (s := Y) x.t x.key x.c) (Nat.succ_le_succ HYL.out))
              obtain ⟨o1, o2, o3⟩ := HO.out
              rw [o1, ← o2]
              have HF9 := Aside0.mk o3
              clear HQ o1 o2 o3 HO HL_ly BA HN_ HX7 HYL
              go_wp2_with fail
              go_roundw
              case rel => exact ⟨j + 1, by omega, by omega, by go_num, X2, _, ⟨HF9.out, HX9.out, HY9.out, HXL7.out, HYL9.out, HB9.out, HN9.out⟩⟩
              case measure => simp [intOf]; omega
            · have HF2 := Aside0.mk (HF.out.other (c := x.c) (t := x.t) HMJ.out hkey hg)
              rw [hg]
              generalize askS P0 X x.t x.key x.c = X2 at HX7 HXL7 HF2
              generalize askV P0 X x.t x.key x.c = v at HV
              have hv : ¬ v = 2 := HV.out
              have e1 := (HB7.out.cell (World.block_lt_of_cell? w _ C1.out)).trans C1.out
              have hks : (x.key.toList == key.toList) = false := by rw [str_beq]; exact decide_eq_false hkey
              clear hg hkey HF HXL
              go_wp2_with fail
              go_roundw
              case rel => exact ⟨j + 1, by omega, by omega, by go_num, X2, Y, ⟨HF2.out, HX7.out, HY7.out, HXL7.out, Nat.le_succ_of_le HYL.out, HB7.out, HN7.out⟩⟩
              case measure => simp [intOf]; omega
          · have e0 := askS_err (p := P0) hg
            have e2 := askV_err (p := P0) hg
            rw [e0] at HX7
            rw [e2]
            have cl7 : w7.cell? ⟨lx, 0, none⟩ = some (.pointer (some ⟨sx, 0, none⟩)) := by rw [cell_of_row w7 _ 0 _ _ _ HX7.out.lim.top]; rfl
            generalize askE X x.t x.key x.c = g at hg
            clear e0 e2 HXL7
            go_wp2_with fail
            refine (Now_fn _ sx mx P0 X.tick X.rows HX7.out.lim.led).mono ?_
            rintro e w8 ⟨rfl, hw⟩
            rw [hw]
            clear hw w8 cl7
            go_wp2_with fail
            go_roundw
            case rel => exact ⟨j + 1, by omega, by omega, by go_num, X, Y, ⟨HF.out, HX7.out, HY7.out, Nat.le_succ_of_le HXL.out, Nat.le_succ_of_le HYL.out, HB7.out, HN7.out⟩⟩
            case measure => simp [intOf]; omega
        · have hend : ¬ ((j : Int) < (l.length : Int)) ∨ (j : Int) < (l.length : Int) ∧ ¬ ((j : Int) < 300) := by omega
          clear hlt hj hj3 hc hcl
          rcases hend with hd1 | ⟨hd1, hd2⟩
          · go_wp2_with fail
            go_ret
            exact ⟨rfl, BS.out.2.2.2.2.2.1⟩
          · go_wp2_with fail
            go_ret
            exact ⟨rfl, BS.out.2.2.2.2.2.1⟩
end Go.Proofs.Ytnodnpenlplleaa.Own
