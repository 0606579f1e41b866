/- Layer 9: charging a key. -/
import Derived.Test.YtnodnpenlplleaaLedD
namespace Go.Proofs.Ytnodnpenlplleaa.Own
open Go.RowKit Go.Proofs.YtnodnpenlplleaaW.PrintWords Go.Proofs.YtnodnpenlplleaaW.PrintLast Go.Proofs.YtnodnpenlplleaaW.PrintMore
open Go.Maps (Keyed)
set_option linter.unusedVariables false
set_option linter.unusedSimpArgs false
attribute [local go_sem] Oper.semAt_some
theorem update_one {P : Program} {ops : Array Oper} {oi : Oper} {N : Option Tmp} {a : Act} {w w' : World} {K : Act → World → Prop} {Q : Exit → Act → World → Prop} {m k x : Operand} {t : TypeId} {v1 v2 v3 : Value} (hop : oi.op = .mapUpdate t m k x)
    (hw : Region.wanted oi (yielded ops a.tmps) = true) (h1 : a.eval m = v1) (h2 : a.eval k = v2) (h3 : a.eval x = v3) (hrun : (Instr.mapUpdate t v1 v2 v3).run P w = .ok () w') (hN : oi.dst = N) (hK : K (a.put N undef) w') : if Region.wanted oi (yielded ops a.tmps) = true then Oper.wp P oi a w K Q else K (a.put N undef) w := by
  rw [if_pos hw]
  subst hN
  unfold Oper.wp
  simp [execOp, hop, h1, h2, h3, hrun, Result.andThen]
  exact hK
theorem Keeps.grown {A B : World} (h : Keeps (fun _ => False) A B) : A.grownBy B none := ⟨h.os, h.tape, h.output, h.size, fun i hi _ => h.block i hi (fun e => e)⟩
theorem DebtV.turned {W W' : World} {mb n : Nat} {D : DataW Value} {v : Value} {d : Debt} (h : DebtV W v d) (hown : W.ownsMap Try.prog 9 rawR mb n D) (hg : W.grownBy W' (some mb)) : DebtV W' v d := by
  obtain ⟨es, clock, hm⟩ := owns_block hown
  refine h.move fun k cur hc => hg.block k (Array.getElem?_eq_some_iff.1 hc).1 (fun e => ?_)
  injection e with e
  subst e
  rw [hm] at hc
  cases hc
theorem charged {W W' : World} {sb mb n n' : Nat} {D : DataW Value} {p : Pol} {tick : Int} {rows : Rws} {key : ByteArray} {v : Value} {d : Debt} (hown : W.ownsMap Try.prog 9 rawR mb n D) (hown' : W'.ownsMap Try.prog 9 rawR mb n' (D.put (lk key) (.held v))) (hg : W.grownBy W' (some mb))
    (hb : W.heap[sb]? = some (.cells (ledC p tick mb) 80 (0, 0))) (hD : LedD W D rows) (hv : DebtV W v d) (hs : sortedR rows) : Led W' sb mb p tick (insertR key d rows) := by
  have hI := hown.isMap
  have hkl : WideAt.IsKeyLit (lk key) := trivial
  obtain ⟨es, clock, hm⟩ := owns_block hown
  refine led_of ((hg.block sb (Array.getElem?_eq_some_iff.1 hb).1 (fun e => ?_)).trans hb) hown' (fun k => ?_) (sorted_insert key d rows hs)
  · injection e with e
    subst e
    rw [hm] at hb
    cases hb
  · rw [lookR_insert key k d rows hs]
    by_cases hk : key = k
    · subst hk
      rw [if_pos rfl]
      exact ⟨by rw [Maps.has_put_same hI hkl]; rfl, v, Maps.atKey_put_same hI hkl _ _, hv.turned hown hg⟩
    · rw [if_neg hk]
      have hne : lk k ≠ lk key := fun e => hk (lk_inj e).symm
      obtain ⟨h1, u, h2, h3⟩ := hD k
      refine ⟨by rw [Maps.has_put_other hne]; exact h1, u, by rw [Maps.atKey_put_other hne]; exact h2, ?_⟩
      cases e : lookR rows k with
      | none => simp only [e] at h3 ⊢; exact h3
      | some d' => simp only [e] at h3 ⊢; exact DebtV.turned h3 hown hg
def charge__T5 : Bool × List (List Nat × List Nat) := (true, [([], []), ([0], [0]), ([1], [1]), ([2], [2]), ([], []), ([], []), ([], []), ([5, 6], [5, 6]), ([], []), ([8], [8]), ([9], [9]), ([10], [10]), ([], []), ([7], [7]), ([13], [13]), ([7, 13, 14], [7]), ([15, 11, 12, 7], [11, 12, 15]), ([3, 4, 16, 16, 0, 1, 2, 3, 4, 5, 6, 7, 8, 9, 10, 11, 12, 13, 14, 15, 16], [3, 4, 16])])
def charge__B5 : List Nat := [0, 1, 3, 7, 0, 0, 0, 96, 0, 256, 768, 1792, 0, 224, 8416, 24800, 65504, 131071]
theorem charge__tab5 : rtab .any (opsOf Try.f20 5) = charge__T5 := by kernel_rfl
theorem charge__bits5 : waitsOk charge__T5.2 charge__B5 = true := by kernel_rfl

/-- Why a key may not be charged. -/
def chargeE (key : ByteArray) (cost : Int) : Int := if isKey key = true then (if 1 ≤ cost ∧ cost ≤ 1048576 then 0 else 62) else 61
/-- The rows when it was charged. -/
def chargeR (p : Pol) (tick : Int) (rows : Rws) (key : ByteArray) (cost : Int) : Rws := if chargeE key cost = 0 then insertR key ((debtR p tick rows key).take p cost) rows else rows

set_option maxRecDepth 100000 in
set_option maxHeartbeats 1000000 in
theorem Charge_fn (w : World) (sb mb : Nat) (p : Pol) (tick : Int) (rows : Rws) (key : ByteArray) (cost : Int) (h : Led w sb mb p tick rows) (ho : OkR p tick rows) (hk : key.size ≤ maxLen) (hlen : rows.length < maxLen) :
    Calls Try.prog 20 #[.pointer (some ⟨sb, 0, none⟩), .string key, .int .i64 cost] w fun e w' => e = .returned (.int .i64 (chargeE key cost)) ∧ Led w' sb mb p tick (chargeR p tick rows key cost) ∧ Keeps (fun k => k = sb ∨ k = mb) w w' := by
  unfold chargeR
  by_cases hi : isKey key = true
  · by_cases hc : 1 ≤ cost ∧ cost ≤ 1048576
    · have hce : chargeE key cost = 0 := by unfold chargeE; rw [if_pos hi, if_pos hc]
      rw [hce, if_pos rfl]
      have HI := Aside0.mk (show decide (1 ≤ key.size ∧ key.size ≤ 64) = true from hi)
      have HS0 := Aside0.mk (HeldB.one (w0 := w) (x := (sb, .cells (ledC p tick mb) 80 (0, 0))) h.blk (Below.refl _ w))
      have HDEBT := Aside0.mk (fun w' (hb : Below w.heap.size w w') => debt_fn w' sb mb p tick rows key (h.below hb) ho hk)
      have HKEY := Aside0.mk (WideMaps.keyOf_string_mk (P := Try.prog) Try.underlying9 hk)
      have HL := Aside0.mk h.map
      have hok := debtR_ok ho key
      have hpol := ho.pol
      have hs := ho.sorted
      obtain ⟨c0, c1⟩ := hc
      clear h ho hi hce
      cases hd : debtR p tick rows key with
      | lev n =>
        rw [hd] at hok
        have HDD := Aside0.mk (show (lookR rows key).getD (noneD p tick) = .lev n from hd)
        have HTK := Aside0.mk (fun w' => levTake_fn p n cost w' hpol hok.1 hok.2.1 hok.2.2 c0 c1)
        simp only [Debt.take]
        have m1 := fun k v w => (lev_take k v w).1
        have m2 := fun k v w => (lev_take k v w).2
        generalize mn (n + cost * p.den) 4611686018427387903 = n' at HTK ⊢
        obtain ⟨kind, cap, num, den, width, count, keys, slots, every, seg⟩ := p
        simp only [Pol.val, Pol.cells, ledC] at HS0 HTK
        clear hd hok hpol
        go_enter Try.func20, Try.ntmps20
        go_wp2_with fail
        refine (is_fn key _).mono ?_
        rintro e w1 ⟨rfl, hw1⟩
        rw [HI.out, hw1]
        clear hw1 w1
        go_wp2_with fail
        refine start_ (n := 18) (S := HeldB w [(sb, .cells #[.int .i64 kind, .int .i64 cap, .int .i64 num, .int .i64 den, .int .i64 width, .int .i64 count, .int .i64 keys, .int .i64 slots, .int .i64 every, .int .i64 seg, .int .i64 tick, .map (some mb)] 80 (0, 0))]) (ds := [17]) #[false, false, false, false, false, false, false, false, false, false, false, false, false, false, false, false, false, false] (by kernel_rfl) rfl rfl (HS0.out.drew) (fun hHeld => ?_); refine with_tabW charge__tab5 charge__bits5 (fun HT_ HW_ => ?_)
        refine pure_ (i := 0) (N := some 18) (v := ?_) (a' := ?_) #[true, false, false, false, false, false, false, false, false, false, false, false, false, false, false, false, false, false] rfl rfl (any_of HT_.out (by kernel_rfl)) (fun _ _ _ h => h) (Or.inl ⟨by rfl, ?_⟩) ?_ ?_
        rotate_left
        · intro w'
          go_simp
          try with_reducible rfl
        rotate_left
        · simp only [Act.put, List.setIfInBounds_toArray, List.set_cons_zero, List.set_cons_succ]
          rfl
        refine pure_ (i := 4) (N := some 22) (v := ?_) (a' := ?_) #[true, false, false, false, true, false, false, false, false, false, false, false, false, false, false, false, false, false] rfl rfl (any_of HT_.out (by kernel_rfl)) (fun _ _ _ h => h) (Or.inl ⟨by rfl, ?_⟩) ?_ ?_
        rotate_left
        · intro w'
          go_simp
          try with_reducible rfl
        rotate_left
        · simp only [Act.put, List.setIfInBounds_toArray, List.set_cons_zero, List.set_cons_succ]
          rfl
        refine pure_ (i := 5) (N := some 23) (v := ?_) (a' := ?_) #[true, false, false, false, true, true, false, false, false, false, false, false, false, false, false, false, false, false] rfl rfl (any_of HT_.out (by kernel_rfl)) (fun _ _ _ h => h) (Or.inl ⟨by rfl, ?_⟩) ?_ ?_
        rotate_left
        · intro w'
          go_simp
          try with_reducible rfl
        rotate_left
        · simp only [Act.put, List.setIfInBounds_toArray, List.set_cons_zero, List.set_cons_succ]
          rfl
        refine pure_ (i := 6) (N := some 24) (v := ?_) (a' := ?_) #[true, false, false, false, true, true, true, false, false, false, false, false, false, false, false, false, false, false] rfl rfl (any_of HT_.out (by kernel_rfl)) (fun _ _ _ h => h) (Or.inl ⟨by rfl, ?_⟩) ?_ ?_
        rotate_left
        · intro w'
          go_simp
          try with_reducible rfl
        rotate_left
        · simp only [Act.put, List.setIfInBounds_toArray, List.set_cons_zero, List.set_cons_succ]
          rfl
        refine pure_ (i := 8) (N := some 26) (v := ?_) (a' := ?_) #[true, false, false, false, true, true, true, false, true, false, false, false, false, false, false, false, false, false] rfl rfl (any_of HT_.out (by kernel_rfl)) (fun _ _ _ h => h) (Or.inl ⟨by rfl, ?_⟩) ?_ ?_
        rotate_left
        · intro w'
          go_simp
          try with_reducible rfl
        rotate_left
        · simp only [Act.put, List.setIfInBounds_toArray, List.set_cons_zero, List.set_cons_succ]
          rfl
        refine pure_ (i := 12) (N := some 30) (v := ?_) (a' := ?_) #[true, false, false, false, true, true, true, false, true, false, false, false, true, false, false, false, false, false] rfl rfl (any_of HT_.out (by kernel_rfl)) (fun _ _ _ h => h) (Or.inl ⟨by rfl, ?_⟩) ?_ ?_
        rotate_left
        · intro w'
          go_simp
          try with_reducible rfl
        rotate_left
        · simp only [Act.put, List.setIfInBounds_toArray, List.set_cons_zero, List.set_cons_succ]
          rfl
        refine pure_ (i := 1) (N := some 19) (v := ?_) (a' := ?_) #[true, true, false, false, true, true, true, false, true, false, false, false, true, false, false, false, false, false] rfl rfl (any_of HT_.out (by kernel_rfl)) (fun _ _ _ h => h) (Or.inl ⟨by rfl, ?_⟩) ?_ ?_
        rotate_left
        · intro w'
          go_simp
          try with_reducible rfl
        rotate_left
        · simp only [Act.put, List.setIfInBounds_toArray, List.set_cons_zero, List.set_cons_succ]
          rfl
        refine pure_ (i := 9) (N := some 27) (v := ?_) (a' := ?_) #[true, true, false, false, true, true, true, false, true, true, false, false, true, false, false, false, false, false] rfl rfl (any_of HT_.out (by kernel_rfl)) (fun _ _ _ h => h) (Or.inl ⟨by rfl, ?_⟩) ?_ ?_
        rotate_left
        · intro w'
          go_simp
          try with_reducible rfl
        rotate_left
        · simp only [Act.put, List.setIfInBounds_toArray, List.set_cons_zero, List.set_cons_succ]
          rfl
        refine pure_ (i := 2) (N := some 20) (v := ?_) (a' := ?_) #[true, true, true, false, true, true, true, false, true, true, false, false, true, false, false, false, false, false] rfl rfl (any_of HT_.out (by kernel_rfl)) (fun _ _ _ h => h) (Or.inl ⟨by rfl, ?_⟩) ?_ ?_
        rotate_left
        · intro w'
          go_simp
          try with_reducible rfl
        rotate_left
        · simp only [Act.put, List.setIfInBounds_toArray, List.set_cons_zero, List.set_cons_succ]
          rfl
        refine pure_ (i := 10) (N := some 28) (v := ?_) (a' := ?_) #[true, true, true, false, true, true, true, false, true, true, true, false, true, false, false, false, false, false] rfl rfl (any_of HT_.out (by kernel_rfl)) (fun _ _ _ h => h) (Or.inl ⟨by rfl, ?_⟩) ?_ ?_
        rotate_left
        · intro w'
          go_simp
          try with_reducible rfl
        rotate_left
        · simp only [Act.put, List.setIfInBounds_toArray, List.set_cons_zero, List.set_cons_succ]
          rfl
        refine take_ (i := 3) (N := some 21) (v := ?_) (a' := ?_) #[true, true, true, true, true, true, true, false, true, true, true, false, true, false, false, false, false, false] rfl rfl (take_ofW HT_.out HW_.out (by kernel_rfl)) (fun _ _ _ h => h) (Or.inl ⟨by rfl, ?_⟩) hHeld ?_ ?_
        rotate_left
        · intro w' hS'
          have hx := hS'.1 (sb, .cells #[.int .i64 kind, .int .i64 cap, .int .i64 num, .int .i64 den, .int .i64 width, .int .i64 count, .int .i64 keys, .int .i64 slots, .int .i64 every, .int .i64 seg, .int .i64 tick, .map (some mb)] 80 (0, 0)) (by simp)
          have c0 : w'.cell? ⟨sb, 11, none⟩ = some (.map (some mb)) := by rw [cell_of_row w' _ 11 _ _ _ hx]; rfl
          go_simp
          try with_reducible rfl
        rotate_left
        · simp only [Act.put, List.setIfInBounds_toArray, List.set_cons_zero, List.set_cons_succ]
          rfl
        refine take_ (i := 11) (N := some 29) (v := .agg #[.int .i64 kind, .int .i64 cap, .int .i64 num, .int .i64 den, .int .i64 width, .int .i64 count, .int .i64 keys, .int .i64 slots, .int .i64 every, .int .i64 seg]) (a' := ?_) #[true, true, true, true, true, true, true, false, true, true, true, true, true, false, false, false, false, false] rfl rfl (take_ofW HT_.out HW_.out (by kernel_rfl)) (fun _ _ _ h => h) (yields_pre (by rfl) 23 _ rfl sb _ rfl (fun w' hS' => hS'.1 (sb, .cells #[.int .i64 kind, .int .i64 cap, .int .i64 num, .int .i64 den, .int .i64 width, .int .i64 count, .int .i64 keys, .int .i64 slots, .int .i64 every, .int .i64 seg, .int .i64 tick, .map (some mb)] 80 (0, 0)) (by simp)) rfl Try.underlying23 rfl infoPol) hHeld ?_ ?_
        rotate_left
        · simp only [Act.put, List.setIfInBounds_toArray, List.set_cons_zero, List.set_cons_succ]
          rfl
        refine one_ (i := 7) (N := some 25) #[true, true, true, true, true, true, true, true, true, true, true, true, true, false, false, false, false, false] rfl rfl (one_of HT_.out (by kernel_rfl)) (by decide) (fun K hK => ?_)
        refine goes_ Try.func43 (by kernel_rfl) rfl #[.pointer (some ⟨sb, 0, none⟩), .string key] (by rfl) rfl rfl (by simp [Act.eval]) ?_
        refine (HDEBT.out _ hHeld.2).mono ?_
        rintro e w2 ⟨v, rfl, hV, hb⟩
        refine ⟨_, rfl, ?_⟩
        simp only [Act.put, List.setIfInBounds_toArray, List.set_cons_zero, List.set_cons_succ]
        rw [HDD.out] at hV
        cases hV
        refine hK.out _ _ (hHeld.step hb) (fun hHeld => ?_)
        clear hK K
        refine pure_ (i := 13) (N := some 31) (v := ?_) (a' := ?_) #[true, true, true, true, true, true, true, true, true, true, true, true, true, true, false, false, false, false] rfl rfl (any_of HT_.out (by kernel_rfl)) (fun _ _ _ h => h) (Or.inl ⟨by rfl, ?_⟩) ?_ ?_
        rotate_left
        · intro w'
          go_simp
          try with_reducible rfl
        rotate_left
        · simp only [Act.put, List.setIfInBounds_toArray, List.set_cons_zero, List.set_cons_succ]
          rfl
        refine pure_ (i := 14) (N := some 32) (v := ?_) (a' := ?_) #[true, true, true, true, true, true, true, true, true, true, true, true, true, true, true, false, false, false] rfl rfl (any_of HT_.out (by kernel_rfl)) (fun _ _ _ h => h) (Or.inl ⟨by rfl, ?_⟩) ?_ ?_
        rotate_left
        · intro w'
          go_simp
          try with_reducible rfl
        rotate_left
        · simp only [Act.put, List.setIfInBounds_toArray, List.set_cons_zero, List.set_cons_succ]
          rfl
        refine pure_ (i := 15) (N := some 33) (v := ?_) (a' := ?_) #[true, true, true, true, true, true, true, true, true, true, true, true, true, true, true, true, false, false] rfl rfl (any_of HT_.out (by kernel_rfl)) (fun _ _ _ h => h) (Or.inl ⟨by rfl, ?_⟩) ?_ ?_
        rotate_left
        · intro w'
          go_simp
          try with_reducible rfl
        rotate_left
        · simp only [Act.put, List.setIfInBounds_toArray, List.set_cons_zero, List.set_cons_succ]
          rfl
        refine one_ (i := 16) (N := some 34) #[true, true, true, true, true, true, true, true, true, true, true, true, true, true, true, true, true, false] rfl rfl (one_of HT_.out (by kernel_rfl)) (by decide) (fun K hK => ?_)
        refine call_ 128 #[.int .i64 n, .agg #[.int .i64 kind, .int .i64 cap, .int .i64 num, .int .i64 den, .int .i64 width, .int .i64 count, .int .i64 keys, .int .i64 slots, .int .i64 every, .int .i64 seg], .int .i64 cost] (by rfl) rfl (by go_simp) ?_
        refine (HTK.out _).mono ?_
        rintro e w3 ⟨rfl, hb⟩
        refine ⟨_, rfl, ?_⟩
        simp only [Act.put, List.setIfInBounds_toArray, List.set_cons_zero, List.set_cons_succ]
        have HV3 := Aside0.mk (show DebtV w3 (.iface 138 (.int .i64 n')) (.lev n') from rfl)
        refine hK.out _ _ (hHeld.step hb) (fun hHeld => ?_)
        clear hK K
        obtain ⟨D, hown, hD⟩ := HL.out
        have hown3 := hown.kept (Keeps.of_below hHeld.2 (fun _ => False)).grown (by simp)
        obtain ⟨W4, hupd, hown4, hg4⟩ := hown3.update kStr Try.underlying78 hlen (val := .iface 138 (.int .i64 n')) (d := .held (.iface 138 (.int .i64 n'))) (ps := []) HKEY.out rfl
        have HF := Aside0.mk (charged (p := ⟨kind, cap, num, den, width, count, keys, slots, every, seg⟩) (tick := tick) (d := .lev n') hown3 hown4 hg4 (hHeld.1 (sb, .cells #[.int .i64 kind, .int .i64 cap, .int .i64 num, .int .i64 den, .int .i64 width, .int .i64 count, .int .i64 keys, .int .i64 slots, .int .i64 every, .int .i64 seg, .int .i64 tick, .map (some mb)] 80 (0, 0)) (by simp)) (hD.move fun k cur hc => hHeld.2.block k (Array.getElem?_eq_some_iff.1 hc).1) HV3.out hs)
        have HK := Aside0.mk ((Keeps.of_below hHeld.2 (fun k => k = sb ∨ k = mb)).trans (Keeps.mk (ex := fun k => k = sb ∨ k = mb) hg4.os hg4.tape hg4.output hg4.size (fun k hk hn => hg4.block k hk (fun e => hn (.inr (by injection e))))))
        clear hown hD hown3 hown4 hg4
        refine last_ (i := 17) (N := none) #[true, true, true, true, true, true, true, true, true, true, true, true, true, true, true, true, true, true] rfl rfl (one_of HT_.out (by kernel_rfl)) (by decide) (fun K hK => ?_)
        refine update_one rfl (by rfl) rfl rfl rfl hupd rfl ?_
        refine hK.out _ _ ?_
        clear hK K hupd
        refine done_ (done_of HT_.out (by kernel_rfl)) ?_
        clear hHeld HT_ HW_
        go_wp2_with fail
        go_ret
        exact ⟨rfl, HF.out, HK.out⟩
      | win g l =>
        rw [hd] at hok
        have HDD := Aside0.mk (show (lookR rows key).getD (noneD p tick) = .win g l from hd)
        have HTK := Aside0.mk (fun A c w' hr => winTake_fn p g cost A c l w' hpol hok.1 hr hok.2 c0 c1)
        simp only [Debt.take]
        have m1 := fun k v w => (win_take k v w).1
        have m2 := fun k v w => (win_take k v w).2
        generalize takeL l cost = l' at HTK ⊢
        obtain ⟨kind, cap, num, den, width, count, keys, slots, every, seg⟩ := p
        simp only [Pol.val, Pol.cells, ledC] at HS0 HTK
        clear hd hok hpol
        go_enter Try.func20, Try.ntmps20
        go_wp2_with fail
        refine (is_fn key _).mono ?_
        rintro e w1 ⟨rfl, hw1⟩
        rw [HI.out, hw1]
        clear hw1 w1
        go_wp2_with fail
        refine start_ (n := 18) (S := HeldB w [(sb, .cells #[.int .i64 kind, .int .i64 cap, .int .i64 num, .int .i64 den, .int .i64 width, .int .i64 count, .int .i64 keys, .int .i64 slots, .int .i64 every, .int .i64 seg, .int .i64 tick, .map (some mb)] 80 (0, 0))]) (ds := [17]) #[false, false, false, false, false, false, false, false, false, false, false, false, false, false, false, false, false, false] (by kernel_rfl) rfl rfl (HS0.out.drew) (fun hHeld => ?_); refine with_tabW charge__tab5 charge__bits5 (fun HT_ HW_ => ?_)
        refine pure_ (i := 0) (N := some 18) (v := ?_) (a' := ?_) #[true, false, false, false, false, false, false, false, false, false, false, false, false, false, false, false, false, false] rfl rfl (any_of HT_.out (by kernel_rfl)) (fun _ _ _ h => h) (Or.inl ⟨by rfl, ?_⟩) ?_ ?_
        rotate_left
        · intro w'
          go_simp
          try with_reducible rfl
        rotate_left
        · simp only [Act.put, List.setIfInBounds_toArray, List.set_cons_zero, List.set_cons_succ]
          rfl
        refine pure_ (i := 4) (N := some 22) (v := ?_) (a' := ?_) #[true, false, false, false, true, false, false, false, false, false, false, false, false, false, false, false, false, false] rfl rfl (any_of HT_.out (by kernel_rfl)) (fun _ _ _ h => h) (Or.inl ⟨by rfl, ?_⟩) ?_ ?_
        rotate_left
        · intro w'
          go_simp
          try with_reducible rfl
        rotate_left
        · simp only [Act.put, List.setIfInBounds_toArray, List.set_cons_zero, List.set_cons_succ]
          rfl
        refine pure_ (i := 5) (N := some 23) (v := ?_) (a' := ?_) #[true, false, false, false, true, true, false, false, false, false, false, false, false, false, false, false, false, false] rfl rfl (any_of HT_.out (by kernel_rfl)) (fun _ _ _ h => h) (Or.inl ⟨by rfl, ?_⟩) ?_ ?_
        rotate_left
        · intro w'
          go_simp
          try with_reducible rfl
        rotate_left
        · simp only [Act.put, List.setIfInBounds_toArray, List.set_cons_zero, List.set_cons_succ]
          rfl
        refine pure_ (i := 6) (N := some 24) (v := ?_) (a' := ?_) #[true, false, false, false, true, true, true, false, false, false, false, false, false, false, false, false, false, false] rfl rfl (any_of HT_.out (by kernel_rfl)) (fun _ _ _ h => h) (Or.inl ⟨by rfl, ?_⟩) ?_ ?_
        rotate_left
        · intro w'
          go_simp
          try with_reducible rfl
        rotate_left
        · simp only [Act.put, List.setIfInBounds_toArray, List.set_cons_zero, List.set_cons_succ]
          rfl
        refine pure_ (i := 8) (N := some 26) (v := ?_) (a' := ?_) #[true, false, false, false, true, true, true, false, true, false, false, false, false, false, false, false, false, false] rfl rfl (any_of HT_.out (by kernel_rfl)) (fun _ _ _ h => h) (Or.inl ⟨by rfl, ?_⟩) ?_ ?_
        rotate_left
        · intro w'
          go_simp
          try with_reducible rfl
        rotate_left
        · simp only [Act.put, List.setIfInBounds_toArray, List.set_cons_zero, List.set_cons_succ]
          rfl
        refine pure_ (i := 12) (N := some 30) (v := ?_) (a' := ?_) #[true, false, false, false, true, true, true, false, true, false, false, false, true, false, false, false, false, false] rfl rfl (any_of HT_.out (by kernel_rfl)) (fun _ _ _ h => h) (Or.inl ⟨by rfl, ?_⟩) ?_ ?_
        rotate_left
        · intro w'
          go_simp
          try with_reducible rfl
        rotate_left
        · simp only [Act.put, List.setIfInBounds_toArray, List.set_cons_zero, List.set_cons_succ]
          rfl
        refine pure_ (i := 1) (N := some 19) (v := ?_) (a' := ?_) #[true, true, false, false, true, true, true, false, true, false, false, false, true, false, false, false, false, false] rfl rfl (any_of HT_.out (by kernel_rfl)) (fun _ _ _ h => h) (Or.inl ⟨by rfl, ?_⟩) ?_ ?_
        rotate_left
        · intro w'
          go_simp
          try with_reducible rfl
        rotate_left
        · simp only [Act.put, List.setIfInBounds_toArray, List.set_cons_zero, List.set_cons_succ]
          rfl
        refine pure_ (i := 9) (N := some 27) (v := ?_) (a' := ?_) #[true, true, false, false, true, true, true, false, true, true, false, false, true, false, false, false, false, false] rfl rfl (any_of HT_.out (by kernel_rfl)) (fun _ _ _ h => h) (Or.inl ⟨by rfl, ?_⟩) ?_ ?_
        rotate_left
        · intro w'
          go_simp
          try with_reducible rfl
        rotate_left
        · simp only [Act.put, List.setIfInBounds_toArray, List.set_cons_zero, List.set_cons_succ]
          rfl
        refine pure_ (i := 2) (N := some 20) (v := ?_) (a' := ?_) #[true, true, true, false, true, true, true, false, true, true, false, false, true, false, false, false, false, false] rfl rfl (any_of HT_.out (by kernel_rfl)) (fun _ _ _ h => h) (Or.inl ⟨by rfl, ?_⟩) ?_ ?_
        rotate_left
        · intro w'
          go_simp
          try with_reducible rfl
        rotate_left
        · simp only [Act.put, List.setIfInBounds_toArray, List.set_cons_zero, List.set_cons_succ]
          rfl
        refine pure_ (i := 10) (N := some 28) (v := ?_) (a' := ?_) #[true, true, true, false, true, true, true, false, true, true, true, false, true, false, false, false, false, false] rfl rfl (any_of HT_.out (by kernel_rfl)) (fun _ _ _ h => h) (Or.inl ⟨by rfl, ?_⟩) ?_ ?_
        rotate_left
        · intro w'
          go_simp
          try with_reducible rfl
        rotate_left
        · simp only [Act.put, List.setIfInBounds_toArray, List.set_cons_zero, List.set_cons_succ]
          rfl
        refine take_ (i := 3) (N := some 21) (v := ?_) (a' := ?_) #[true, true, true, true, true, true, true, false, true, true, true, false, true, false, false, false, false, false] rfl rfl (take_ofW HT_.out HW_.out (by kernel_rfl)) (fun _ _ _ h => h) (Or.inl ⟨by rfl, ?_⟩) hHeld ?_ ?_
        rotate_left
        · intro w' hS'
          have hx := hS'.1 (sb, .cells #[.int .i64 kind, .int .i64 cap, .int .i64 num, .int .i64 den, .int .i64 width, .int .i64 count, .int .i64 keys, .int .i64 slots, .int .i64 every, .int .i64 seg, .int .i64 tick, .map (some mb)] 80 (0, 0)) (by simp)
          have c0 : w'.cell? ⟨sb, 11, none⟩ = some (.map (some mb)) := by rw [cell_of_row w' _ 11 _ _ _ hx]; rfl
          go_simp
          try with_reducible rfl
        rotate_left
        · simp only [Act.put, List.setIfInBounds_toArray, List.set_cons_zero, List.set_cons_succ]
          rfl
        refine take_ (i := 11) (N := some 29) (v := .agg #[.int .i64 kind, .int .i64 cap, .int .i64 num, .int .i64 den, .int .i64 width, .int .i64 count, .int .i64 keys, .int .i64 slots, .int .i64 every, .int .i64 seg]) (a' := ?_) #[true, true, true, true, true, true, true, false, true, true, true, true, true, false, false, false, false, false] rfl rfl (take_ofW HT_.out HW_.out (by kernel_rfl)) (fun _ _ _ h => h) (yields_pre (by rfl) 23 _ rfl sb _ rfl (fun w' hS' => hS'.1 (sb, .cells #[.int .i64 kind, .int .i64 cap, .int .i64 num, .int .i64 den, .int .i64 width, .int .i64 count, .int .i64 keys, .int .i64 slots, .int .i64 every, .int .i64 seg, .int .i64 tick, .map (some mb)] 80 (0, 0)) (by simp)) rfl Try.underlying23 rfl infoPol) hHeld ?_ ?_
        rotate_left
        · simp only [Act.put, List.setIfInBounds_toArray, List.set_cons_zero, List.set_cons_succ]
          rfl
        refine one_ (i := 7) (N := some 25) #[true, true, true, true, true, true, true, true, true, true, true, true, true, false, false, false, false, false] rfl rfl (one_of HT_.out (by kernel_rfl)) (by decide) (fun K hK => ?_)
        refine goes_ Try.func43 (by kernel_rfl) rfl #[.pointer (some ⟨sb, 0, none⟩), .string key] (by rfl) rfl rfl (by simp [Act.eval]) ?_
        refine (HDEBT.out _ hHeld.2).mono ?_
        rintro e w2 ⟨v, rfl, hV, hb⟩
        refine ⟨_, rfl, ?_⟩
        simp only [Act.put, List.setIfInBounds_toArray, List.set_cons_zero, List.set_cons_succ]
        rw [HDD.out] at hV
        obtain ⟨s, rfl, hN⟩ := hV
        obtain ⟨As, cs, rfl, hcs, hCs, _⟩ := hN
        have HCS := Aside0.mk hCs
        clear hCs
        refine hK.out _ _ (hHeld.step hb) (fun hHeld => ?_)
        clear hK K
        refine pure_ (i := 13) (N := some 31) (v := ?_) (a' := ?_) #[true, true, true, true, true, true, true, true, true, true, true, true, true, true, false, false, false, false] rfl rfl (any_of HT_.out (by kernel_rfl)) (fun _ _ _ h => h) (Or.inl ⟨by rfl, ?_⟩) ?_ ?_
        rotate_left
        · intro w'
          go_simp
          try with_reducible rfl
        rotate_left
        · simp only [Act.put, List.setIfInBounds_toArray, List.set_cons_zero, List.set_cons_succ]
          rfl
        refine pure_ (i := 14) (N := some 32) (v := ?_) (a' := ?_) #[true, true, true, true, true, true, true, true, true, true, true, true, true, true, true, false, false, false] rfl rfl (any_of HT_.out (by kernel_rfl)) (fun _ _ _ h => h) (Or.inl ⟨by rfl, ?_⟩) ?_ ?_
        rotate_left
        · intro w'
          go_simp
          try with_reducible rfl
        rotate_left
        · simp only [Act.put, List.setIfInBounds_toArray, List.set_cons_zero, List.set_cons_succ]
          rfl
        refine pure_ (i := 15) (N := some 33) (v := ?_) (a' := ?_) #[true, true, true, true, true, true, true, true, true, true, true, true, true, true, true, true, false, false] rfl rfl (any_of HT_.out (by kernel_rfl)) (fun _ _ _ h => h) (Or.inl ⟨by rfl, ?_⟩) ?_ ?_
        rotate_left
        · intro w'
          go_simp
          try with_reducible rfl
        rotate_left
        · simp only [Act.put, List.setIfInBounds_toArray, List.set_cons_zero, List.set_cons_succ]
          rfl
        refine one_ (i := 16) (N := some 34) #[true, true, true, true, true, true, true, true, true, true, true, true, true, true, true, true, true, false] rfl rfl (one_of HT_.out (by kernel_rfl)) (by decide) (fun K hK => ?_)
        refine call_ 139 #[.agg #[.int .i64 g, .slice As l.length cs], .agg #[.int .i64 kind, .int .i64 cap, .int .i64 num, .int .i64 den, .int .i64 width, .int .i64 count, .int .i64 keys, .int .i64 slots, .int .i64 every, .int .i64 seg], .int .i64 cost] (by rfl) rfl (by go_simp) ?_
        refine (HTK.out As cs _ HCS.out).mono ?_
        rintro e w3 ⟨s', rfl, hN', hb⟩
        refine ⟨_, rfl, ?_⟩
        simp only [Act.put, List.setIfInBounds_toArray, List.set_cons_zero, List.set_cons_succ]
        have HV3 := Aside0.mk (show DebtV w3 (.iface 142 (.agg #[.int .i64 g, s'])) (.win g l') from ⟨s', rfl, hN'⟩)
        clear hN'
        refine hK.out _ _ (hHeld.step hb) (fun hHeld => ?_)
        clear hK K
        obtain ⟨D, hown, hD⟩ := HL.out
        have hown3 := hown.kept (Keeps.of_below hHeld.2 (fun _ => False)).grown (by simp)
        obtain ⟨W4, hupd, hown4, hg4⟩ := hown3.update kStr Try.underlying78 hlen (val := .iface 142 (.agg #[.int .i64 g, s'])) (d := .held (.iface 142 (.agg #[.int .i64 g, s']))) (ps := []) HKEY.out rfl
        have HF := Aside0.mk (charged (p := ⟨kind, cap, num, den, width, count, keys, slots, every, seg⟩) (tick := tick) (d := .win g l') hown3 hown4 hg4 (hHeld.1 (sb, .cells #[.int .i64 kind, .int .i64 cap, .int .i64 num, .int .i64 den, .int .i64 width, .int .i64 count, .int .i64 keys, .int .i64 slots, .int .i64 every, .int .i64 seg, .int .i64 tick, .map (some mb)] 80 (0, 0)) (by simp)) (hD.move fun k cur hc => hHeld.2.block k (Array.getElem?_eq_some_iff.1 hc).1) HV3.out hs)
        have HK := Aside0.mk ((Keeps.of_below hHeld.2 (fun k => k = sb ∨ k = mb)).trans (Keeps.mk (ex := fun k => k = sb ∨ k = mb) hg4.os hg4.tape hg4.output hg4.size (fun k hk hn => hg4.block k hk (fun e => hn (.inr (by injection e))))))
        clear hown hD hown3 hown4 hg4
        refine last_ (i := 17) (N := none) #[true, true, true, true, true, true, true, true, true, true, true, true, true, true, true, true, true, true] rfl rfl (one_of HT_.out (by kernel_rfl)) (by decide) (fun K hK => ?_)
        refine update_one rfl (by rfl) rfl rfl rfl hupd rfl ?_
        refine hK.out _ _ ?_
        clear hK K hupd
        refine done_ (done_of HT_.out (by kernel_rfl)) ?_
        clear hHeld HT_ HW_
        go_wp2_with fail
        go_ret
        exact ⟨rfl, HF.out, HK.out⟩
    · have hce : chargeE key cost = 62 := by unfold chargeE; rw [if_pos hi, if_neg hc]
      rw [hce, if_neg (by decide)]
      have HI := Aside0.mk (show decide (1 ≤ key.size ∧ key.size ≤ 64) = true from hi)
      have HL := Aside0.mk h
      have hcc : cost < 1 ∨ 1 ≤ cost ∧ 1048576 < cost := by omega
      clear h ho hi hce hc
      go_enter Try.func20, Try.ntmps20
      go_wp2_with fail
      refine (is_fn key _).mono ?_
      rintro e w1 ⟨rfl, hw1⟩
      rw [HI.out, hw1]
      clear hw1 w1
      rcases hcc with h1 | ⟨h1, h2⟩
      · go_wp2_with fail
        go_ret
        exact ⟨rfl, HL.out, Keeps.refl _ _⟩
      · have h1' : ¬ cost < 1 := by omega
        go_wp2_with fail
        go_ret
        exact ⟨rfl, HL.out, Keeps.refl _ _⟩
  · have hi' : isKey key = false := by simpa using hi
    have hce : chargeE key cost = 61 := by unfold chargeE; rw [if_neg hi]
    rw [hce, if_neg (by decide)]
    have HI := Aside0.mk (show decide (1 ≤ key.size ∧ key.size ≤ 64) = false from hi')
    have HL := Aside0.mk h
    clear h ho hi hi' hce
    go_enter Try.func20, Try.ntmps20
    go_wp2_with fail
    refine (is_fn key _).mono ?_
    rintro e w1 ⟨rfl, hw1⟩
    rw [HI.out, hw1]
    clear hw1 w1
    go_wp2_with fail
    go_ret
    exact ⟨rfl, HL.out, Keeps.refl _ _⟩
end Go.Proofs.Ytnodnpenlplleaa.Own
