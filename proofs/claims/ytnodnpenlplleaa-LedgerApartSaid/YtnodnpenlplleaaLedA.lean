/- Layer 9: a ledger's tick; does a key owe; what it owes. -/
import Derived.Test.YtnodnpenlplleaaLed
namespace Go.Proofs.Ytnodnpenlplleaa.Own
open Go.RowKit Go.Proofs.YtnodnpenlplleaaW.PrintWords Go.Proofs.YtnodnpenlplleaaW.PrintLast Go.Proofs.YtnodnpenlplleaaW.PrintMore
open Go.Maps (Keyed)
set_option linter.unusedVariables false
set_option linter.unusedSimpArgs false

theorem zeroDebt (w : World) : (zeroValue 85).run Try.prog w = .ok .nilIface w := by
  have h : (Try.prog.info? 85).map (fun i => i.zero) = some (some .nilIface) := by kernel_rfl
  cases e : Try.prog.info? 85 with
  | none => rw [e] at h; cases h
  | some i => rw [e] at h; simp at h; simp [zeroValue, typeInfo, e, h]

/-- What a look-up gives. -/
def Found (w : World) (rows : Rws) (key : ByteArray) (v : Value) : Prop := match lookR rows key with | some d => DebtV w v d | none => v = .nilIface
theorem Led.look {w : World} {sb mb : Nat} {p : Pol} {tick : Int} {rows : Rws} (h : Led w sb mb p tick rows) {key : ByteArray} (hk : key.size ≤ maxLen) :
    ∃ v, (Instr.lookup 78 (.map (some mb)) (.string key) false).run Try.prog w = .ok v w ∧ Found w rows key v := by
  obtain ⟨D, hown, hD⟩ := h.map
  have hkey := WideMaps.keyOf_string_mk (P := Try.prog) Try.underlying9 hk
  obtain ⟨vl, ps, hlook, hvl⟩ := hown.lookup kStr Try.underlying78 (zeroDebt w) (z := .nilIface) (zd := .held .nilIface) (zp := []) rfl hkey
  obtain ⟨h1, v, h2, h3⟩ := hD key
  have e1 : D.atKey (lk key) (.held .nilIface) = .held vl := by
    have := congrArg Prod.fst (Option.some.inj hvl); exact this.symm
  rw [h2] at e1
  injection e1 with e1
  subst e1
  exact ⟨v, hlook, h3⟩

theorem Now_fn (w : World) (sb mb : Nat) (p : Pol) (tick : Int) (rows : Rws) (h : Led w sb mb p tick rows) :
    Calls Try.prog 17 #[.pointer (some ⟨sb, 0, none⟩)] w fun e w' => e = .returned (.int .i64 tick) ∧ w' = w := by
  have c0 : w.cell? ⟨sb, 10, none⟩ = some (.int .i64 tick) := by rw [cell_of_row w _ 10 _ _ _ h.blk]; rfl
  clear h
  go_enter Try.func17, Try.ntmps17
  go_wp2_with fail
  go_ret
  simp
theorem is_fn (key : ByteArray) (w : World) :
    Calls Try.prog 42 #[.string key] w fun e w' => e = .returned (.bool (decide (1 ≤ key.size ∧ key.size ≤ 64))) ∧ w' = w := by
  generalize hr : decide (1 ≤ key.size ∧ key.size ≤ 64) = r
  have HR := Aside0.mk hr
  clear hr
  go_enter Try.func42, Try.ntmps42
  by_cases h1 : (1 : Int) ≤ (key.size : Int)
  · have HE := Aside0.mk (show decide ((key.size : Int) ≤ 64) = r from by rw [← HR.out, decide_eq_decide]; omega)
    go_wp2_with fail
    go_ret
    exact ⟨congrArg (fun b => Ending.returned (Value.bool b)) HE.out, rfl⟩
  · have HE := Aside0.mk (show false = r from by rw [← HR.out, decide_eq_false (by omega)])
    go_wp2_with fail
    go_ret
    exact ⟨congrArg (fun b => Ending.returned (Value.bool b)) HE.out, rfl⟩

set_option maxRecDepth 100000 in
set_option maxHeartbeats 600000 in
theorem Owes_fn (w : World) (sb mb : Nat) (p : Pol) (tick : Int) (rows : Rws) (key : ByteArray) (h : Led w sb mb p tick rows) (hk : key.size ≤ maxLen) :
    Calls Try.prog 24 #[.pointer (some ⟨sb, 0, none⟩), .string key] w fun e w' => e = .returned (.bool (lookR rows key).isSome) ∧ w' = w := by
  have c0 : w.cell? ⟨sb, 11, none⟩ = some (.map (some mb)) := by rw [cell_of_row w _ 11 _ _ _ h.blk]; rfl
  obtain ⟨v, hlook, hv⟩ := h.look hk
  clear h
  unfold Found at hv
  cases e : lookR rows key with
  | none =>
    simp only [e] at hv
    subst hv
    clear e
    go_enter Try.func24, Try.ntmps24
    go_wp2_with fail
    go_ret
    simp
  | some d =>
    simp only [e] at hv
    clear e
    cases d with
    | lev n =>
      cases hv
      go_enter Try.func24, Try.ntmps24
      go_wp2_with fail
      go_ret
      simp
    | win g l =>
      obtain ⟨s, rfl, _⟩ := hv
      go_enter Try.func24, Try.ntmps24
      go_wp2_with fail
      go_ret
      simp

/-- What one owes who owes nothing. -/
def noneD (p : Pol) (tick : Int) : Debt := if p.kind = 1 then .lev 0 else .win (tick / p.width) (List.replicate p.count.toNat 0)
theorem noneD_ok {p : Pol} {tick : Int} (hp : p.ok) (h0 : 0 ≤ tick) (h1 : tick ≤ 1099511627776) : (noneD p tick).ok p := by
  have hpi := Pol.is hp
  unfold noneD
  split
  · rename_i hk
    exact ⟨hk, by decide, by decide⟩
  · rename_i hk
    have hk2 : p.kind = 2 := by omega
    refine ⟨hk2, Int.ediv_nonneg h0 (by omega), Int.ediv_le_ediv (by omega) h1, by rw [List.length_replicate]; omega, fun x hx => ?_⟩
    rw [List.eq_of_mem_replicate hx]
    decide

end Go.Proofs.Ytnodnpenlplleaa.Own
