/- Layer 9: a ledger as the laws use it; keys have nothing to do with one another: the plain law. -/
import Derived.Test.YtnodnpenlplleaaAwk9
namespace Go.Proofs.Ytnodnpenlplleaa.Own
open Go.RowKit Go.Proofs.YtnodnpenlplleaaW.PrintWords Go.Proofs.YtnodnpenlplleaaW.PrintLast Go.Proofs.YtnodnpenlplleaaW.PrintMore
set_option linter.unusedVariables false
set_option linter.unusedSimpArgs false

def moveS (p : Pol) (s : LSt) (t : Int) : LSt := ⟨tickM s.tick t, rowsM p s.tick s.rows t⟩
def chargeS (p : Pol) (s : LSt) (k : ByteArray) (c : Int) : LSt := ⟨s.tick, chargeR p s.tick s.rows k c⟩
theorem moveS_ok {p : Pol} {s : LSt} (h : OkR p s.tick s.rows) (t : Int) : OkR p (moveS p s t).tick (moveS p s t).rows := moveM_ok h t
theorem chargeS_ok {p : Pol} {s : LSt} (h : OkR p s.tick s.rows) (k : ByteArray) (c : Int) : OkR p (chargeS p s k c).tick (chargeS p s k c).rows := charge_ok h k c
theorem moveS_length (p : Pol) (s : LSt) (t : Int) : (moveS p s t).rows.length ≤ s.rows.length := moveM_length p s.tick s.rows t
theorem chargeS_length (p : Pol) (s : LSt) (k : ByteArray) (c : Int) : (chargeS p s k c).rows.length ≤ s.rows.length + 1 := charge_length p s.tick s.rows k c

theorem moveS_not {p : Pol} {s : LSt} {t : Int} (h : ¬ moveE s.tick t = 0) : moveS p s t = s := by
  unfold moveS tickM rowsM
  rw [if_neg h, if_neg h]
theorem chargeS_not {p : Pol} {s : LSt} {k : ByteArray} {c : Int} (h : ¬ chargeE k c = 0) : chargeS p s k c = s := by
  unfold chargeS chargeR
  rw [if_neg h]

/-- A ledger that was laid behind n. -/
structure LedI (n : Nat) (w : World) (sb mb : Nat) (p : Pol) (s : LSt) : Prop where
  led : Led w sb mb p s.tick s.rows
  ok : OkR p s.tick s.rows
  at2 : n ≤ sb
  at3 : n ≤ mb
theorem LedI.below {n : Nat} {w w' : World} {sb mb : Nat} {p : Pol} {s : LSt} (h : LedI n w sb mb p s) (hb : Below w.heap.size w w') : LedI n w' sb mb p s := ⟨h.led.below hb, h.ok, h.at2, h.at3⟩
theorem LedI.keep {n : Nat} {w0 w w' : World} {sb mb : Nat} {p : Pol} {s : LSt} (h : LedI n w sb mb p s) (hn : n ≤ w.heap.size) (hb : Below n w0 w) (hk : Keeps (fun k => k = sb ∨ k = mb) w w') : Below n w0 w' ∧ n ≤ w'.heap.size :=
  ⟨hb.trans (hk.below hn (fun i hi => by rcases hi with rfl | rfl; exact h.at2; exact h.at3)), Nat.le_trans hn hk.size⟩
theorem LedI.beside {n : Nat} {w w' : World} {sb mb sb' mb' : Nat} {p p' : Pol} {s s' : LSt} (h : LedI n w sb mb p s) (h' : LedI n w sb' mb' p' s') (h1 : sb ≠ sb') (h2 : mb ≠ mb') (hk : Keeps (fun k => k = sb' ∨ k = mb') w w') : LedI n w' sb mb p s :=
  ⟨h.led.beside h'.led h1 h2 hk, h.ok, h.at2, h.at3⟩
theorem MoveI_fn (n : Nat) (w0 w : World) (sb mb : Nat) (p : Pol) (s : LSt) (t : Int) (h : LedI n w sb mb p s) (hn : n ≤ w.heap.size) (hb : Below n w0 w) (hlen : s.rows.length ≤ 100000) :
    Calls Try.prog 18 #[.pointer (some ⟨sb, 0, none⟩), .int .i64 t] w fun e w' => e = .returned (.int .i64 (moveE s.tick t)) ∧ LedI n w' sb mb p (moveS p s t) ∧ (Below n w0 w' ∧ n ≤ w'.heap.size) ∧ Keeps (fun k => k = sb ∨ k = mb) w w' :=
  (MoveL_fn w sb mb p s.tick t s.rows h.led h.ok (by simp only [maxLen]; omega)).mono fun e w' hh => ⟨hh.1, ⟨hh.2.1, moveS_ok h.ok t, h.at2, h.at3⟩, h.keep hn hb hh.2.2, hh.2.2⟩
theorem ChargeI_fn (n : Nat) (w0 w : World) (sb mb : Nat) (p : Pol) (s : LSt) (k : ByteArray) (c : Int) (h : LedI n w sb mb p s) (hn : n ≤ w.heap.size) (hb : Below n w0 w) (hk : k.size ≤ maxLen) (hlen : s.rows.length ≤ 100000) :
    Calls Try.prog 20 #[.pointer (some ⟨sb, 0, none⟩), .string k, .int .i64 c] w fun e w' => e = .returned (.int .i64 (chargeE k c)) ∧ LedI n w' sb mb p (chargeS p s k c) ∧ (Below n w0 w' ∧ n ≤ w'.heap.size) ∧ Keeps (fun k => k = sb ∨ k = mb) w w' :=
  (Charge_fn w sb mb p s.tick s.rows k c h.led h.ok hk (by simp only [maxLen]; omega)).mono fun e w' hh => ⟨hh.1, ⟨hh.2.1, chargeS_ok h.ok k c, h.at2, h.at3⟩, h.keep hn hb hh.2.2, hh.2.2⟩
theorem MayI_fn (n : Nat) (w0 w : World) (sb mb : Nat) (p : Pol) (s : LSt) (k : ByteArray) (c : Int) (h : LedI n w sb mb p s) (hn : n ≤ w.heap.size) (hb : Below n w0 w) (hk : k.size ≤ maxLen) :
    Calls Try.prog 23 #[.pointer (some ⟨sb, 0, none⟩), .string k, .int .i64 c] w fun e w' => e = .returned (.bool (mayR p s.tick s.rows k c)) ∧ Below w.heap.size w w' ∧ LedI n w' sb mb p s ∧ (Below n w0 w' ∧ n ≤ w'.heap.size) :=
  (MayL_fn w sb mb p s.tick s.rows k c h.led h.ok hk).mono fun e w' hh => ⟨hh.1, hh.2, h.below hh.2, hb.trans (hh.2.mono hn), Nat.le_trans hn hh.2.size⟩

/-- The second has what the first has of the key, and nothing else. -/
structure Apart (p : Pol) (key : ByteArray) (x y : LSt) : Prop where
  okx : OkR p x.tick x.rows
  oky : OkR p y.tick y.rows
  tick : y.tick = x.tick
  same : lookR y.rows key = lookR x.rows key
  suby : ∀ k ∈ keysR y.rows, k = key
theorem apart_start {p : Pol} (hp : p.ok) (key : ByteArray) : Apart p key ⟨0, []⟩ ⟨0, []⟩ := ⟨new_ok hp, new_ok hp, rfl, rfl, fun _ h => by simp [keysR] at h⟩
section
variable {p : Pol} {key : ByteArray} {x y : LSt}
theorem look_moveS {s : LSt} (h : OkR p s.tick s.rows) (t : Int) (k : ByteArray) : lookR (moveS p s t).rows k = if moveE s.tick t = 0 then (lookR s.rows k).bind (lateD p s.tick t) else lookR s.rows k := by
  unfold moveS rowsM
  simp only
  split
  · exact look_move k h.sorted
  · rfl
theorem keys_moveS {s : LSt} {t : Int} {k : ByteArray} (h : k ∈ keysR (moveS p s t).rows) : k ∈ keysR s.rows := by
  unfold moveS rowsM at h
  simp only at h
  split at h
  · exact (keys_move (p := p) (a := s.tick) (b := t) s.rows).subset h
  · exact h
theorem Apart.move (h : Apart p key x y) (t : Int) : Apart p key (moveS p x t) (moveS p y t) :=
  ⟨moveS_ok h.okx t, moveS_ok h.oky t, by unfold moveS tickM; simp only; rw [h.tick], by rw [look_moveS h.okx, look_moveS h.oky, h.same, h.tick], fun k hk => h.suby k (keys_moveS hk)⟩
theorem look_chargeS {s : LSt} (h : OkR p s.tick s.rows) (k : ByteArray) (c : Int) (k' : ByteArray) : lookR (chargeS p s k c).rows k' = if chargeE k c = 0 ∧ k = k' then some ((debtR p s.tick s.rows k).take p c) else lookR s.rows k' := by
  unfold chargeS chargeR
  simp only
  by_cases he : chargeE k c = 0
  · rw [if_pos he, lookR_insert _ _ _ _ h.sorted]
    by_cases hk : k = k'
    · rw [if_pos hk, if_pos ⟨he, hk⟩]
    · rw [if_neg hk, if_neg (fun h => hk h.2)]
  · rw [if_neg he, if_neg (fun h => he h.1)]
theorem Apart.other (h : Apart p key x y) {k : ByteArray} (hk : k ≠ key) (c : Int) : Apart p key (chargeS p x k c) y :=
  ⟨chargeS_ok h.okx k c, h.oky, h.tick, by rw [look_chargeS h.okx, if_neg (fun e => hk e.2)]; exact h.same, h.suby⟩
theorem Apart.debt (h : Apart p key x y) : debtR p x.tick x.rows key = debtR p y.tick y.rows key := by
  unfold debtR
  rw [h.same, h.tick]
theorem Apart.own (h : Apart p key x y) (c : Int) : Apart p key (chargeS p x key c) (chargeS p y key c) :=
  ⟨chargeS_ok h.okx key c, chargeS_ok h.oky key c, h.tick, by rw [look_chargeS h.okx, look_chargeS h.oky, h.debt, h.same], fun k hk => by
    unfold chargeS chargeR at hk
    simp only at hk
    split at hk
    · rcases (keys_insert _ _ _ _).1 hk with e | hk
      · exact e
      · exact h.suby k hk
    · exact h.suby k hk⟩
theorem Apart.may (h : Apart p key x y) (c : Int) : mayR p x.tick x.rows key c = mayR p y.tick y.rows key c := by
  unfold mayR
  rw [h.debt]
theorem Apart.keys (h : Apart p key x y) : keysR y.rows = [] ∨ keysR y.rows = [key] := by
  have hn := sorted_nodup h.oky.sorted
  cases e : keysR y.rows with
  | nil => exact .inl rfl
  | cons a l =>
    have hs := h.suby
    rw [e] at hs hn
    have ha := hs a (by simp)
    cases l with
    | nil => rw [ha]; exact .inr rfl
    | cons b l =>
      have hb := hs b (by simp)
      rw [List.nodup_cons] at hn
      exact absurd (by rw [ha, hb]; simp) hn.1
end
end Go.Proofs.Ytnodnpenlplleaa.Own
