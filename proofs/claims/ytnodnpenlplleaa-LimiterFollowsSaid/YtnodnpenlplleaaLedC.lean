/- Layer 9: a ledger's tick; does a key owe; what it owes. -/
import Derived.Test.YtnodnpenlplleaaLed
namespace Go.Proofs.Ytnodnpenlplleaa.Own
open Go.RowKit Go.Proofs.YtnodnpenlplleaaW.PrintWords Go.Proofs.YtnodnpenlplleaaW.PrintLast Go.Proofs.YtnodnpenlplleaaW.PrintMore
open Go.Maps (Keyed)
set_option linter.unusedVariables false
set_option linter.unusedSimpArgs false

theorem zeroDebt (w : World) : (zeroValue 85).run Try.prog w = .ok .nilIface w := by
  have h : (Try.prog.info? 85).map (fun i => i.zero) = some (some .nilIface) := by kernel_rfl
  cases e : Try.prog.info? 85 with
  | none => rw [e] at h; cases h
  | some i => rw [e] at h; simp at h; simp [zeroValue, typeInfo, e, h]

/-- What a look-up gives. -/
def Found (w : World) (rows : Rws) (key : ByteArray) (v : Value) : Prop := match lookR rows key with | some d => DebtV w v d | none => v = .nilIface
theorem Led.look {w : World} {sb mb : Nat} {p : Pol} {tick : Int} {rows : Rws} (h : Led w sb mb p tick rows) {key : ByteArray} (hk : key.size ≤ maxLen) :
    ∃ v, (Instr.lookup 78 (.map (some mb)) (.string key) false).run Try.prog w = .ok v w ∧ Found w rows key v := by
  obtain ⟨D, hown, hD⟩ := h.map
  have hkey := WideMaps.keyOf_string_mk (P := Try.prog) Try.underlying9 hk
  obtain ⟨vl, ps, hlook, hvl⟩ := hown.lookup kStr Try.underlying78 (zeroDebt w) (z := .nilIface) (zd := .held .nilIface) (zp := []) rfl hkey
  obtain ⟨h1, v, h2, h3⟩ := hD key
  have e1 : D.atKey (lk key) (.held .nilIface) = .held vl := by
    have := congrArg Prod.fst (Option.some.inj hvl); exact this.symm
  rw [h2] at e1
  injection e1 with e1
  subst e1
  exact ⟨v, hlook, h3⟩

theorem Now_fn (w : World) (sb mb : Nat) (p : Pol) (tick : Int) (rows : Rws) (h : Led w sb mb p tick rows) :
    Calls Try.prog 17 #[.pointer (some ⟨sb, 0, none⟩)] w fun e w' => e = .returned (.int .i64 tick) ∧ w' = w := by
  have c0 : w.cell? ⟨sb, 10, none⟩ = some (.int .i64 tick) := by rw [cell_of_row w _ 10 _ _ _ h.blk]; rfl
  clear h
  go_enter Try.func17, Try.ntmps17
  go_wp2_with fail
  go_ret
  simp
theorem is_fn (key : ByteArray) (w : World) :
    Calls Try.prog 42 #[.string key] w fun e w' => e = .returned (.bool (decide (1 ≤ key.size ∧ key.size ≤ 64))) ∧ w' = w := by
  generalize hr : decide (1 ≤ key.size ∧ key.size ≤ 64) = r
  have HR := Aside0.mk hr
  clear hr
  go_enter Try.func42, Try.ntmps42
  by_cases h1 : (1 : Int) ≤ (key.size : Int)
  · have HE := Aside0.mk (show decide ((key.size : Int) ≤ 64) = r from by rw [← HR.out, decide_eq_decide]; omega)
    go_wp2_with fail
    go_ret
    exact ⟨congrArg (fun b => Ending.returned (Value.bool b)) HE.out, rfl⟩
  · have HE := Aside0.mk (show false = r from by rw [← HR.out, decide_eq_false (by omega)])
    go_wp2_with fail
    go_ret
    exact ⟨congrArg (fun b => Ending.returned (Value.bool b)) HE.out, rfl⟩

set_option maxRecDepth 100000 in
set_option maxHeartbeats 600000 in
theorem Owes_fn (w : World) (sb mb : Nat) (p : Pol) (tick : Int) (rows : Rws) (key : ByteArray) (h : Led w sb mb p tick rows) (hk : key.size ≤ maxLen) :
    Calls Try.prog 24 #[.pointer (some ⟨sb, 0, none⟩), .string key] w fun e w' => e = .returned (.bool (lookR rows key).isSome) ∧ w' = w := by
  have c0 : w.cell? ⟨sb, 11, none⟩ = some (.map (some mb)) := by rw [cell_of_row w _ 11 _ _ _ h.blk]; rfl
  obtain ⟨v, hlook, hv⟩ := h.look hk
  clear h
  unfold Found at hv
  cases e : lookR rows key with
  | none =>
    simp only [e] at hv
    subst hv
    clear e
    go_enter Try.func24, Try.ntmps24
    go_wp2_with fail
    go_ret
    simp
  | some d =>
    simp only [e] at hv
    clear e
    cases d with
    | lev n =>
      cases hv
      go_enter Try.func24, Try.ntmps24
      go_wp2_with fail
      go_ret
      simp
    | win g l =>
      obtain ⟨s, rfl, _⟩ := hv
      go_enter Try.func24, Try.ntmps24
      go_wp2_with fail
      go_ret
      simp

/-- What one owes who owes nothing. -/
def noneD (p : Pol) (tick : Int) : Debt := if p.kind = 1 then .lev 0 else .win (tick / p.width) (List.replicate p.count.toNat 0)
theorem noneD_ok {p : Pol} {tick : Int} (hp : p.ok) (h0 : 0 ≤ tick) (h1 : tick ≤ 1099511627776) : (noneD p tick).ok p := by
  have hpi := Pol.is hp
  unfold noneD
  split
  · rename_i hk
    exact ⟨hk, by decide, by decide⟩
  · rename_i hk
    have hk2 : p.kind = 2 := by omega
    refine ⟨hk2, Int.ediv_nonneg h0 (by omega), Int.ediv_le_ediv (by omega) h1, by rw [List.length_replicate]; omega, fun x hx => ?_⟩
    rw [List.eq_of_mem_replicate hx]
    decide

end Go.Proofs.Ytnodnpenlplleaa.Own
/- Layer 9: what a key owes now, and what it may. -/
namespace Go.Proofs.Ytnodnpenlplleaa.Own
open Go.RowKit Go.Proofs.YtnodnpenlplleaaW.PrintWords Go.Proofs.YtnodnpenlplleaaW.PrintLast Go.Proofs.YtnodnpenlplleaaW.PrintMore
set_option linter.unusedVariables false
set_option linter.unusedSimpArgs false
attribute [local go_sem] Oper.semAt_some
def none__T3 : Bool × List (List Nat × List Nat) := (true, [([], []), ([0], [0]), ([1], [1]), ([2], [2]), ([], []), ([4], [4]), ([5], [5]), ([6], [6]), ([3, 7], [3, 7]), ([8], [8]), ([9], [9]), ([10, 8, 0, 1, 2, 3, 4, 5, 6, 7, 8, 9, 10], [10])])
def none__B3 : List Nat := [0, 1, 3, 7, 0, 16, 48, 112, 255, 511, 1023, 2047]
theorem none__tab3 : rtab .any (opsOf Try.f65 3) = none__T3 := by kernel_rfl
theorem none__bits3 : waitsOk none__T3.2 none__B3 = true := by kernel_rfl

set_option maxRecDepth 100000 in
set_option maxHeartbeats 600000 in
theorem none_fn (w : World) (sb mb : Nat) (p : Pol) (tick : Int) (rows : Rws) (h : Led w sb mb p tick rows) (hp : p.ok) (h0 : 0 ≤ tick) (h1 : tick ≤ 1099511627776) :
    Calls Try.prog 65 #[.pointer (some ⟨sb, 0, none⟩)] w fun e w' => ∃ v, e = .returned v ∧ DebtV w' v (noneD p tick) ∧ Below w.heap.size w w' := by
  have HB := Aside0.mk h.blk
  have HFR := Aside0.mk (fun w' hk => Fresh_fn p tick w' hp hk h0 h1)
  have hpi := Pol.is hp
  obtain ⟨kind, cap, num, den, width, count, keys, slots, every, seg⟩ := p
  simp only [Pol.val, Pol.cells, ledC] at HB HFR ⊢
  simp only at hpi
  have c0 : w.cell? ⟨sb, 0, none⟩ = some (.int .i64 kind) := by rw [cell_of_row w _ 0 _ _ _ HB.out]; rfl
  unfold noneD
  simp only
  clear h hp
  by_cases hk : kind = 1
  · subst hk
    rw [if_pos rfl]
    clear hpi
    go_enter Try.func65, Try.ntmps65
    go_wp2_with fail
    go_ret
    exact ⟨_, rfl, rfl, Below.refl _ _⟩
  · rw [if_neg hk]
    obtain rfl : kind = 2 := by omega
    clear hpi hk
    have HS0 := Aside0.mk (HeldB.one (x := (sb, .cells #[.int .i64 2, .int .i64 cap, .int .i64 num, .int .i64 den, .int .i64 width, .int .i64 count, .int .i64 keys, .int .i64 slots, .int .i64 every, .int .i64 seg, .int .i64 tick, .map (some mb)] 80 (0, 0))) HB.out (Below.refl _ w))
    go_enter Try.func65, Try.ntmps65
    go_wp2_with fail
    refine start_ (n := 12) (S := HeldB w [(sb, .cells #[.int .i64 2, .int .i64 cap, .int .i64 num, .int .i64 den, .int .i64 width, .int .i64 count, .int .i64 keys, .int .i64 slots, .int .i64 every, .int .i64 seg, .int .i64 tick, .map (some mb)] 80 (0, 0))]) (ds := []) #[false, false, false, false, false, false, false, false, false, false, false, false] (by kernel_rfl) rfl rfl (HS0.out.drew) (fun hHeld => ?_); refine with_tabW none__tab3 none__bits3 (fun HT_ HW_ => ?_)
    refine pure_ (i := 0) (N := some 10) (v := ?_) (a' := ?_) #[true, false, false, false, false, false, false, false, false, false, false, false] rfl rfl (any_of HT_.out (by kernel_rfl)) (fun _ _ _ h => h) (Or.inl ⟨by rfl, ?_⟩) ?_ ?_
    rotate_left
    · intro w'
      go_simp
      try with_reducible rfl
    rotate_left
    · simp only [Act.put, List.setIfInBounds_toArray, List.set_cons_zero, List.set_cons_succ]
      rfl
    refine pure_ (i := 4) (N := some 14) (v := ?_) (a' := ?_) #[true, false, false, false, true, false, false, false, false, false, false, false] rfl rfl (any_of HT_.out (by kernel_rfl)) (fun _ _ _ h => h) (Or.inl ⟨by rfl, ?_⟩) ?_ ?_
    rotate_left
    · intro w'
      go_simp
      try with_reducible rfl
    rotate_left
    · simp only [Act.put, List.setIfInBounds_toArray, List.set_cons_zero, List.set_cons_succ]
      rfl
    refine pure_ (i := 1) (N := some 11) (v := ?_) (a' := ?_) #[true, true, false, false, true, false, false, false, false, false, false, false] rfl rfl (any_of HT_.out (by kernel_rfl)) (fun _ _ _ h => h) (Or.inl ⟨by rfl, ?_⟩) ?_ ?_
    rotate_left
    · intro w'
      go_simp
      try with_reducible rfl
    rotate_left
    · simp only [Act.put, List.setIfInBounds_toArray, List.set_cons_zero, List.set_cons_succ]
      rfl
    refine pure_ (i := 5) (N := some 15) (v := ?_) (a' := ?_) #[true, true, false, false, true, true, false, false, false, false, false, false] rfl rfl (any_of HT_.out (by kernel_rfl)) (fun _ _ _ h => h) (Or.inl ⟨by rfl, ?_⟩) ?_ ?_
    rotate_left
    · intro w'
      go_simp
      try with_reducible rfl
    rotate_left
    · simp only [Act.put, List.setIfInBounds_toArray, List.set_cons_zero, List.set_cons_succ]
      rfl
    refine pure_ (i := 2) (N := some 12) (v := ?_) (a' := ?_) #[true, true, true, false, true, true, false, false, false, false, false, false] rfl rfl (any_of HT_.out (by kernel_rfl)) (fun _ _ _ h => h) (Or.inl ⟨by rfl, ?_⟩) ?_ ?_
    rotate_left
    · intro w'
      go_simp
      try with_reducible rfl
    rotate_left
    · simp only [Act.put, List.setIfInBounds_toArray, List.set_cons_zero, List.set_cons_succ]
      rfl
    refine pure_ (i := 6) (N := some 16) (v := ?_) (a' := ?_) #[true, true, true, false, true, true, true, false, false, false, false, false] rfl rfl (any_of HT_.out (by kernel_rfl)) (fun _ _ _ h => h) (Or.inl ⟨by rfl, ?_⟩) ?_ ?_
    rotate_left
    · intro w'
      go_simp
      try with_reducible rfl
    rotate_left
    · simp only [Act.put, List.setIfInBounds_toArray, List.set_cons_zero, List.set_cons_succ]
      rfl
    refine take_ (i := 3) (N := some 13) (v := .agg #[.int .i64 2, .int .i64 cap, .int .i64 num, .int .i64 den, .int .i64 width, .int .i64 count, .int .i64 keys, .int .i64 slots, .int .i64 every, .int .i64 seg]) (a' := ?_) #[true, true, true, true, true, true, true, false, false, false, false, false] rfl rfl (take_ofW HT_.out HW_.out (by kernel_rfl)) (fun _ _ _ h => h) (yields_pre (by rfl) 23 _ rfl sb _ rfl (fun w' hS' => hS'.1 (sb, .cells #[.int .i64 2, .int .i64 cap, .int .i64 num, .int .i64 den, .int .i64 width, .int .i64 count, .int .i64 keys, .int .i64 slots, .int .i64 every, .int .i64 seg, .int .i64 tick, .map (some mb)] 80 (0, 0)) (by simp)) rfl Try.underlying23 rfl infoPol) hHeld ?_ ?_
    rotate_left
    · simp only [Act.put, List.setIfInBounds_toArray, List.set_cons_zero, List.set_cons_succ]
      rfl
    refine take_ (i := 7) (N := some 17) (v := ?_) (a' := ?_) #[true, true, true, true, true, true, true, true, false, false, false, false] rfl rfl (take_ofW HT_.out HW_.out (by kernel_rfl)) (fun _ _ _ h => h) (Or.inl ⟨by rfl, ?_⟩) hHeld ?_ ?_
    rotate_left
    · intro w' hS'
      have hx := hS'.1 (sb, .cells #[.int .i64 2, .int .i64 cap, .int .i64 num, .int .i64 den, .int .i64 width, .int .i64 count, .int .i64 keys, .int .i64 slots, .int .i64 every, .int .i64 seg, .int .i64 tick, .map (some mb)] 80 (0, 0)) (by simp)
      have c0 : w'.cell? ⟨sb, 10, none⟩ = some (.int .i64 tick) := by rw [cell_of_row w' _ 10 _ _ _ hx]; rfl
      go_simp
      try with_reducible rfl
    rotate_left
    · simp only [Act.put, List.setIfInBounds_toArray, List.set_cons_zero, List.set_cons_succ]
      rfl
    refine one_ (i := 8) (N := some 18) #[true, true, true, true, true, true, true, true, true, false, false, false] rfl rfl (one_of HT_.out (by kernel_rfl)) (by decide) (fun K hK => ?_)
    refine goes_ Try.func81 (by kernel_rfl) rfl #[.agg #[.int .i64 2, .int .i64 cap, .int .i64 num, .int .i64 den, .int .i64 width, .int .i64 count, .int .i64 keys, .int .i64 slots, .int .i64 every, .int .i64 seg], .int .i64 tick] (by rfl) rfl rfl (by simp [Act.eval]) ?_
    refine (HFR.out _ trivial).mono ?_
    rintro e w2 ⟨v, rfl, hRv, hb⟩
    refine ⟨_, rfl, ?_⟩
    simp only [Act.put, List.setIfInBounds_toArray, List.set_cons_zero, List.set_cons_succ]
    obtain ⟨Av, cv, ev⟩ := Kd.R_slice hRv
    subst ev
    rw [List.length_replicate] at hRv ⊢
    have HRF := Aside0.mk (nums_of_R hRv)
    clear hRv
    refine hK.out _ _ (hHeld.step hb) (fun hHeld => ?_)
    clear hK K
    refine pure_ (i := 9) (N := some 19) (v := ?_) (a' := ?_) #[true, true, true, true, true, true, true, true, true, true, false, false] rfl rfl (any_of HT_.out (by kernel_rfl)) (fun _ _ _ h => h) (Or.inl ⟨by rfl, ?_⟩) ?_ ?_
    rotate_left
    · intro w'
      go_simp
      try with_reducible rfl
    rotate_left
    · simp only [Act.put, List.setIfInBounds_toArray, List.set_cons_zero, List.set_cons_succ]
      rfl
    refine pure_ (i := 10) (N := some 20) (v := ?_) (a' := ?_) #[true, true, true, true, true, true, true, true, true, true, true, false] rfl rfl (any_of HT_.out (by kernel_rfl)) (fun _ _ _ h => h) (Or.inl ⟨by rfl, ?_⟩) ?_ ?_
    rotate_left
    · intro w'
      go_simp
      try with_reducible rfl
    rotate_left
    · simp only [Act.put, List.setIfInBounds_toArray, List.set_cons_zero, List.set_cons_succ]
      rfl
    refine pure_ (i := 11) (N := some 2) (v := ?_) (a' := ?_) #[true, true, true, true, true, true, true, true, true, true, true, true] rfl rfl (any_of HT_.out (by kernel_rfl)) (fun _ _ _ h => h) (Or.inl ⟨by rfl, ?_⟩) ?_ ?_
    rotate_left
    · intro w'
      go_simp
      try with_reducible rfl
    rotate_left
    · simp only [Act.put, List.setIfInBounds_toArray, List.set_cons_zero, List.set_cons_succ]
      rfl
    refine done_ (done_of HT_.out (by kernel_rfl)) ?_
    have HB2 := Aside0.mk hHeld.2
    clear hHeld HT_ HW_
    go_wp2_with fail
    go_ret
    exact ⟨_, rfl, ⟨_, rfl, HRF.out⟩, HB2.out⟩

set_option maxRecDepth 100000 in
set_option maxHeartbeats 600000 in
theorem debt_fn (w : World) (sb mb : Nat) (p : Pol) (tick : Int) (rows : Rws) (key : ByteArray) (h : Led w sb mb p tick rows) (ho : OkR p tick rows) (hk : key.size ≤ maxLen) :
    Calls Try.prog 43 #[.pointer (some ⟨sb, 0, none⟩), .string key] w fun e w' => ∃ v, e = .returned v ∧ DebtV w' v ((lookR rows key).getD (noneD p tick)) ∧ Below w.heap.size w w' := by
  have c0 : w.cell? ⟨sb, 11, none⟩ = some (.map (some mb)) := by rw [cell_of_row w _ 11 _ _ _ h.blk]; rfl
  have HN := Aside0.mk (none_fn w sb mb p tick rows h ho.pol ho.tick0 ho.tick1)
  obtain ⟨v, hlook, hv⟩ := h.look hk
  clear h ho
  unfold Found at hv
  cases e : lookR rows key with
  | none =>
    simp only [e] at hv
    subst hv
    clear e
    go_enter Try.func43, Try.ntmps43
    go_wp2_with fail
    refine HN.out.mono ?_
    rintro e w1 ⟨v, rfl, hV, hb⟩
    have HV := Aside0.mk hV
    have HB := Aside0.mk hb
    clear hV hb HN hlook c0
    go_wp2_with fail
    go_ret
    exact ⟨_, rfl, HV.out, HB.out⟩
  | some d =>
    simp only [e] at hv
    clear e HN
    have HV := Aside0.mk hv
    cases d with
    | lev n =>
      cases hv
      go_enter Try.func43, Try.ntmps43
      go_wp2_with fail
      go_ret
      exact ⟨_, rfl, HV.out, Below.refl _ _⟩
    | win g l =>
      obtain ⟨s, rfl, _⟩ := hv
      go_enter Try.func43, Try.ntmps43
      go_wp2_with fail
      go_ret
      exact ⟨_, rfl, HV.out, Below.refl _ _⟩
end Go.Proofs.Ytnodnpenlplleaa.Own
/- Layer 9: the keys of the ledger's map, in order; how many there are. -/
namespace Go.Proofs.Ytnodnpenlplleaa.Own
open Go.RowKit Go.Proofs.YtnodnpenlplleaaW.PrintWords Go.Proofs.YtnodnpenlplleaaW.PrintLast Go.Proofs.YtnodnpenlplleaaW.PrintMore
open Go.Maps (Keyed)
set_option linter.unusedVariables false
set_option linter.unusedSimpArgs false

theorem keys_of_map {w : World} {b n : Nat} {D : DataW Value} {ks : List ByteArray} (hown : w.ownsMap Try.prog 9 rawR b n D) (hD : ∀ key, Maps.has D (lk key) = true ↔ key ∈ ks) (hs : ks.Pairwise klt) {ss : List (List UInt8)} (hp : ss.Perm (Go.strKeys D)) :
    (ss.mergeSort (fun x y => decide (x ≤ y))).map (fun l => (⟨l.toArray⟩ : ByteArray)) = ks := by
  obtain ⟨es, rfl, hpw, hkl⟩ := hown.entries kStr
  obtain ⟨es', e', hks⟩ := hown.keysOf
  injection e' with e'
  subst e'
  have hstr : ∀ p ∈ es, ∃ x : List UInt8, p.1 = .string x := fun p hp => by
    obtain ⟨v, hv⟩ := hks p hp
    obtain ⟨x, _, hx, _⟩ := Maps.keyOf_str Try.underlying9 hv
    exact ⟨x, hx⟩
  have hmem : ∀ x : List UInt8, x ∈ Go.strKeys (.map es) ↔ Maps.has (.map es) (.string x) = true := fun x => by
    rw [Maps.has_eq, List.any_eq_true]
    show x ∈ es.map (fun p => Go.strOf p.1) ↔ _
    rw [List.mem_map]
    constructor
    · rintro ⟨p, hp, rfl⟩
      obtain ⟨y, hy⟩ := hstr p hp
      exact ⟨p, hp, by rw [hy]; simp [Go.strOf, Lit.sameKey]⟩
    · rintro ⟨p, hp, h⟩
      have := WideAt.sameKey_eq h
      exact ⟨p, hp, by rw [this]; rfl⟩
  have hnd : (Go.strKeys (.map es)).Nodup := by
    show (es.map fun p => Go.strOf p.1).Nodup
    refine List.pairwise_map.2 (hpw.imp_of_mem fun {p q} hp' hq' hne e => hne ?_)
    obtain ⟨a, ha⟩ := hstr p hp'
    obtain ⟨b, hb⟩ := hstr q hq'
    rw [ha, hb] at e ⊢
    exact congrArg _ e
  have tr : ∀ a b c : List UInt8, (decide (a ≤ b)) = true → (decide (b ≤ c)) = true → (decide (a ≤ c)) = true := fun a b c h1 h2 => by simp only [decide_eq_true_eq] at *; exact List.le_trans h1 h2
  have tot : ∀ a b : List UInt8, ((decide (a ≤ b)) || (decide (b ≤ a))) = true := fun a b => by simp only [Bool.or_eq_true, decide_eq_true_eq]; exact List.le_total a b
  have hsp := List.pairwise_mergeSort tr tot ss
  have hperm := (List.mergeSort_perm ss (fun x y => decide (x ≤ y))).trans hp
  have hnd' := hperm.symm.nodup hnd
  refine sorted_unique ?_ hs (fun key => ?_)
  · rw [List.pairwise_map]
    have hboth := hsp.and hnd'
    refine hboth.imp fun {a b} h => ?_
    have h1 : a ≤ b := of_decide_eq_true h.1
    show a.toArray.toList < b.toArray.toList
    simp only [List.toList_toArray]
    rcases List.le_iff_lt_or_eq.1 h1 with h2 | h2
    · exact h2
    · exact absurd h2 h.2
  · rw [List.mem_map]
    have h1 := hD key
    constructor
    · rintro ⟨l, hl, rfl⟩
      have h2 := (hmem l).1 (hperm.mem_iff.1 hl)
      have h3 : Maps.has (.map es) (lk ⟨l.toArray⟩) = true := by simpa [lk] using h2
      exact (hD _).1 h3
    · intro h
      exact ⟨key.data.toList, hperm.mem_iff.2 ((hmem _).2 (h1.2 h)), by simp⟩
theorem size_of_map {w : World} {b n : Nat} {D : DataW Value} {ks : List ByteArray} (hown : w.ownsMap Try.prog 9 rawR b n D) (hD : ∀ key, Maps.has D (lk key) = true ↔ key ∈ ks) (hs : ks.Pairwise klt) : Maps.size D = ks.length := by
  have h := congrArg List.length (keys_of_map hown hD hs (List.Perm.refl _))
  rw [List.length_map, List.length_mergeSort] at h
  obtain ⟨es, rfl, _, _⟩ := hown.entries kStr
  rw [← h]
  simp [Maps.size, Go.strKeys]
theorem owns_tight {w : World} {b n : Nat} {D : DataW Value} (hown : w.ownsMap Try.prog 9 rawR b n D) : w.ownsMap Try.prog 9 rawR b (Maps.size D) D := by
  obtain ⟨es, clock, hb, F, hs, rfl⟩ := hown
  refine ⟨es, clock, hb, F, ?_, rfl⟩
  simp [Maps.size, Go.length_sorted]
theorem look_keys {rows : Rws} {D : DataW Value} {w : World} (h : LedD w D rows) (key : ByteArray) : Maps.has D (lk key) = true ↔ key ∈ keysR rows := by
  rw [(h key).1]
  cases e : lookR rows key with
  | none => simp [lookR_none.1 e]
  | some d =>
    have : ¬ lookR rows key = none := by rw [e]; simp
    rw [lookR_none] at this
    simpa using this
/-- The map's block read as those rows, whatever bound is known. -/
theorem led_of {w : World} {sb mb n : Nat} {p : Pol} {tick : Int} {rows : Rws} {D : DataW Value} (hb : w.heap[sb]? = some (.cells (ledC p tick mb) 80 (0, 0))) (hown : w.ownsMap Try.prog 9 rawR mb n D) (hD : LedD w D rows) (hs : sortedR rows) : Led w sb mb p tick rows := by
  refine ⟨hb, D, ?_, hD⟩
  have h1 := size_of_map hown (look_keys hD) hs
  have h2 := owns_tight hown
  rw [h1] at h2
  simpa [keysR] using h2
theorem Led.size {w : World} {sb mb : Nat} {p : Pol} {tick : Int} {rows : Rws} (h : Led w sb mb p tick rows) (hs : sortedR rows) : ∃ D, w.ownsMap Try.prog 9 rawR mb rows.length D ∧ LedD w D rows ∧ Maps.size D = rows.length := by
  obtain ⟨D, h1, h2⟩ := h.map
  exact ⟨D, h1, h2, by rw [size_of_map h1 (look_keys h2) hs]; simp [keysR]⟩
end Go.Proofs.Ytnodnpenlplleaa.Own
