/- Layer 10: there is room: the plain laws. -/
import Derived.Test.YtnodnpenlplleaaLimC
import Derived.Test.YtnodnpenlplleaaMv
import Derived.Test.YtnodnpenlplleaaBytB
namespace Go.Proofs.Ytnodnpenlplleaa.Own
open Go.RowKit Go.Proofs.YtnodnpenlplleaaW.PrintWords Go.Proofs.YtnodnpenlplleaaW.PrintLast Go.Proofs.YtnodnpenlplleaaW.PrintMore
set_option linter.unusedVariables false
set_option linter.unusedSimpArgs false

/-- A debt that stands at a tick (a window's grid has come so far). -/
def standsAt (p : Pol) (t : Int) : Debt → Prop
  | .lev _ => True
  | .win g _ => t / p.width ≤ g
theorem later_self {p : Pol} {d : Debt} (hd : d.ok p) {t : Int} (h : standsAt p t d) : d.later p t t = d := by
  cases d with
  | lev n =>
    obtain ⟨_, h0, _⟩ := hd
    simp only [Debt.later, Int.sub_self, Int.zero_mul, Int.sub_zero]
    unfold mx
    split
    · congr 1; omega
    · rfl
  | win g l =>
    simp only [standsAt] at h
    simp only [Debt.later, moveX, if_pos h]
theorem stands_later (p : Pol) (a b : Int) (d : Debt) : standsAt p b (d.later p a b) := by
  cases d with
  | lev n => trivial
  | win g l =>
    simp only [Debt.later, standsAt]
    unfold moveX
    split
    · assumption
    · exact Int.le_refl _
theorem stands_none (p : Pol) (t : Int) : standsAt p t (noneD p t) := by
  unfold noneD
  split
  · trivial
  · exact Int.le_refl _
theorem stands_take {p : Pol} {t : Int} {d : Debt} (h : standsAt p t d) (c : Int) : standsAt p t (d.take p c) := by
  cases d with
  | lev n => trivial
  | win g l => exact h
theorem stands_debt {p : Pol} {a b : Int} {rows : Rws} (hs : sortedR rows) (key : ByteArray) : standsAt p b (debtR p b (moveR p a b rows) key) := by
  unfold debtR
  rw [look_move key hs]
  cases e : lookR rows key with
  | none => exact stands_none p b
  | some d =>
    simp only [Option.bind_some]
    unfold lateD
    split
    · exact stands_later p a b d
    · exact stands_none p b
theorem insert_same {key : ByteArray} {d d' : Debt} {rows : Rws} (h : lookR rows key = some d) (hs : sortedR rows) : (insertR key d' rows).length = rows.length := by
  obtain ⟨pre, post, e1, e2⟩ := insert_split key d' h hs
  rw [e2, e1]
  simp
/-- No more owe than may. -/
def roomR (p : Pol) (s : LSt) : Prop := (s.rows.length : Int) ≤ p.keys
theorem room_ask {p : Pol} {s : LSt} (ho : OkR p s.tick s.rows) (h : roomR p s) (t : Int) (key : ByteArray) (c : Int) : roomR p (askS p s t key c) := by
  have h1 : ((askM p s t).length : Int) ≤ p.keys := by
    have : (askM p s t).length ≤ s.rows.length := move_length s.rows
    unfold roomR at h
    omega
  unfold askS
  split
  · rename_i he
    obtain ⟨e1, e2, e3, _⟩ := rightE_ok he
    have hm : OkR p t (askM p s t) := move_ok ho e1 e3
    unfold roomR
    simp only
    split
    · rename_i hv
      unfold askV at hv
      rw [if_pos he] at hv
      split at hv
      · cases hv
      · rename_i hf
        unfold chargeR
        split
        · cases hl : lookR (askM p s t) key with
          | some d => rw [insert_same hl hm.sorted]; exact h1
          | none =>
            rw [insert_absent key _ hl]
            unfold fullR at hf
            rw [hl] at hf
            simp at hf
            omega
        · exact h1
    · exact h1
  · exact h
/-- Who was answered may be asked again at the same tick; who was allowed is not told that it is full. -/
theorem again_law {p : Pol} {s : LSt} (ho : OkR p s.tick s.rows) (t : Int) (key : ByteArray) (c : Int) (he : askE s t key c = 0) :
    askE (askS p s t key c) t key 1 = 0 ∧ (askV p s t key c = 1 → ¬ askV p (askS p s t key c) t key 1 = 2) := by
  obtain ⟨e1, e2, e3, e4, e5, _⟩ := rightE_ok he
  have ht : (askS p s t key c).tick = t := by unfold askS; rw [if_pos he]
  have hm : OkR p t (askM p s t) := move_ok ho e1 e3
  have hz : askE (askS p s t key c) t key 1 = 0 := by
    unfold askE
    rw [ht]
    unfold rightE recE
    rw [if_neg (fun h => by omega), if_pos ⟨e2, e3⟩, if_pos e4, if_pos (by decide), if_pos (by decide)]
  refine ⟨hz, fun hv hw => ?_⟩
  have hr : askS p s t key c = ⟨t, chargeR p t (askM p s t) key c⟩ := by unfold askS; rw [if_pos he, if_pos hv]
  have hce : chargeE key c = 0 := by unfold chargeE; rw [if_pos e4, if_pos e5]
  unfold askV at hw
  rw [if_pos hz] at hw
  split at hw
  · rename_i hf
    unfold fullR at hf
    rw [Bool.and_eq_true] at hf
    have hf1 := hf.1
    have hrows : askM p (askS p s t key c) t = moveR p t t (insertR key ((debtR p t (askM p s t) key).take p c) (askM p s t)) := by
      unfold askM
      rw [hr]
      simp only
      unfold chargeR
      rw [if_pos hce]
      rfl
    have hok := debtR_ok hm key
    have htk := take_ok ho.pol hok e5.1 e5.2
    rw [hrows, look_move key (sorted_insert key _ _ hm.sorted), lookR_insert _ _ _ _ hm.sorted, if_pos rfl, Option.bind_some] at hf1
    have hst : standsAt p t ((debtR p t (askM p s t) key).take p c) := stands_take (stands_debt ho.sorted key) c
    unfold lateD at hf1
    rw [later_self htk.1 hst, if_pos htk.2] at hf1
    cases hf1
  · split at hw <;> cases hw
/-- The first byte tells how many owe. -/
theorem first_byte {p : Pol} {s : LSt} (hp : p.ok) (h : roomR p s) : ∃ b, rd (bytesR s.rows) 0 = b ∧ 1 ≤ (bytesR s.rows).length ∧ 0 ≤ b ∧ b ≤ 255 ∧ (b ≤ p.keys ∨ 128 ≤ b) := by
  have hpi := Pol.is hp
  unfold roomR at h
  have hp1 := numN_pos s.rows.length
  have e : bytesR s.rows = numN s.rows.length ++ rowsB s.rows := by unfold bytesR numB; rw [Int.toNat_natCast]
  by_cases h1 : s.rows.length < 128
  · refine ⟨(s.rows.length : Int), ?_, ?_, by omega, by omega, .inl h⟩
    · rw [e, numN_small h1]; rfl
    · rw [e, List.length_append]; omega
  · refine ⟨((s.rows.length % 128 + 128 : Nat) : Int), ?_, ?_, by omega, by omega, .inr (by omega)⟩
    · rw [e, numN_big h1]; rfl
    · rw [e, List.length_append]; omega
end Go.Proofs.Ytnodnpenlplleaa.Own
