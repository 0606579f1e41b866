/- Layer 10: a limiter as the laws use it; the document's example. -/
import Derived.Test.YtnodnpenlplleaaLimB
namespace Go.Proofs.Ytnodnpenlplleaa.Own
open Go.RowKit Go.Proofs.YtnodnpenlplleaaW.PrintWords Go.Proofs.YtnodnpenlplleaaW.PrintLast Go.Proofs.YtnodnpenlplleaaW.PrintMore
set_option linter.unusedVariables false
set_option linter.unusedSimpArgs false

theorem askS_ok {p : Pol} {s : LSt} (h : OkR p s.tick s.rows) (t : Int) (key : ByteArray) (c : Int) : OkR p (askS p s t key c).tick (askS p s t key c).rows := by
  unfold askS
  split
  · rename_i he
    obtain ⟨h1, h2, h3, _⟩ := rightE_ok he
    have hm : OkR p t (askM p s t) := move_ok h h1 h3
    simp only
    split
    · exact charge_ok hm key c
    · exact hm
  · exact h
theorem askS_length {p : Pol} {s : LSt} (t : Int) (key : ByteArray) (c : Int) : (askS p s t key c).rows.length ≤ s.rows.length + 1 := by
  have h1 : (askM p s t).length ≤ s.rows.length := move_length s.rows
  unfold askS
  split
  · simp only
    split
    · exact Nat.le_trans (charge_length p t (askM p s t) key c) (by omega)
    · omega
  · omega

/-- A limiter that was laid behind n. -/
structure LimI (n : Nat) (w : World) (lb sb mb : Nat) (p : Pol) (s : LSt) : Prop where
  lim : Lim w lb sb mb p s.tick s.rows
  ok : OkR p s.tick s.rows
  at1 : n ≤ lb
  at2 : n ≤ sb
  at3 : n ≤ mb
theorem LimI.below {n : Nat} {w w' : World} {lb sb mb : Nat} {p : Pol} {s : LSt} (h : LimI n w lb sb mb p s) (hb : Below w.heap.size w w') : LimI n w' lb sb mb p s := ⟨h.lim.below hb, h.ok, h.at1, h.at2, h.at3⟩
theorem AskI_fn (n : Nat) (w0 w : World) (lb sb mb : Nat) (p : Pol) (s : LSt) (t : Int) (key : ByteArray) (c : Int) (h : LimI n w lb sb mb p s) (hn : n ≤ w.heap.size) (hb : Below n w0 w) (hk : key.size ≤ maxLen) (hlen : s.rows.length ≤ 100000) :
    Calls Try.prog 27 #[.pointer (some ⟨lb, 0, none⟩), .int .i64 t, .string key, .int .i64 c] w fun e w' => e = .returned (.tuple #[.int .i64 (askV p s t key c), .int .i64 (askE s t key c)]) ∧ LimI n w' lb sb mb p (askS p s t key c) ∧ Below n w0 w' ∧ n ≤ w'.heap.size ∧ Keeps (fun k => k = sb ∨ k = mb) w w' :=
  (Ask_fn w lb sb mb p s t key c h.lim h.ok hk hlen).mono fun e w' hh => ⟨hh.1, ⟨hh.2.1, askS_ok h.ok t key c, h.at1, h.at2, h.at3⟩, hb.trans (hh.2.2.below hn (fun i hi => by rcases hi with rfl | rfl; exact h.at2; exact h.at3)), Nat.le_trans hn hh.2.2.size, hh.2.2⟩

def awP : Pol := ⟨1, 3, 1, 1, 0, 0, 2, 1, 0, 1⟩
def aw0 : LSt := ⟨0, []⟩
def aw1 : LSt := askS awP aw0 0 kA 2
def aw2 : LSt := askS awP aw1 0 kA 2
def aw3 : LSt := askS awP aw2 0 kB 1
def aw4 : LSt := askS awP aw3 0 kC 1
def aw5 : LSt := askS awP aw4 1 kC 1
theorem awE : awP.E = 0 := by decide +kernel
theorem awV : askV awP aw0 0 kA 2 = 1 ∧ askV awP aw1 0 kA 2 = 0 ∧ askV awP aw2 0 kB 1 = 1 ∧ askV awP aw3 0 kC 1 = 2 ∧ askV awP aw4 1 kC 1 = 1 ∧ aw5.tick = 1 := by decide +kernel
theorem awL : aw0.rows.length ≤ 100000 ∧ aw1.rows.length ≤ 100000 ∧ aw2.rows.length ≤ 100000 ∧ aw3.rows.length ≤ 100000 ∧ aw4.rows.length ≤ 100000 := by decide +kernel

def lawake__x : Unit := ()
set_option maxRecDepth 100000 in
set_option maxHeartbeats 1000000 in
theorem awake_fn (w : World) : Calls Try.prog 25 #[] w fun e w' => e = .returned (.bool true) ∧ Below w.heap.size w w' := by
  have HNEW := Aside0.mk (fun w' => NewL_fn w' awP)
  rw [awE] at HNEW
  have HA1 := Aside0.mk (fun w' lb sb mb (h : LimI w.heap.size w' lb sb mb awP aw0) (hn : w.heap.size ≤ w'.heap.size) (hb : Below w.heap.size w w') => AskI_fn w.heap.size w w' lb sb mb awP aw0 0 kA 2 h hn hb (by decide) awL.1)
  have HA2 := Aside0.mk (fun w' lb sb mb (h : LimI w.heap.size w' lb sb mb awP aw1) (hn : w.heap.size ≤ w'.heap.size) (hb : Below w.heap.size w w') => AskI_fn w.heap.size w w' lb sb mb awP aw1 0 kA 2 h hn hb (by decide) awL.2.1)
  have HA3 := Aside0.mk (fun w' lb sb mb (h : LimI w.heap.size w' lb sb mb awP aw2) (hn : w.heap.size ≤ w'.heap.size) (hb : Below w.heap.size w w') => AskI_fn w.heap.size w w' lb sb mb awP aw2 0 kB 1 h hn hb (by decide) awL.2.2.1)
  have HA4 := Aside0.mk (fun w' lb sb mb (h : LimI w.heap.size w' lb sb mb awP aw3) (hn : w.heap.size ≤ w'.heap.size) (hb : Below w.heap.size w w') => AskI_fn w.heap.size w w' lb sb mb awP aw3 0 kC 1 h hn hb (by decide) awL.2.2.2.1)
  have HA5 := Aside0.mk (fun w' lb sb mb (h : LimI w.heap.size w' lb sb mb awP aw4) (hn : w.heap.size ≤ w'.heap.size) (hb : Below w.heap.size w w') => AskI_fn w.heap.size w w' lb sb mb awP aw4 1 kC 1 h hn hb (by decide) awL.2.2.2.2)
  rw [awV.1] at HA1; rw [awV.2.1] at HA2; rw [awV.2.2.1] at HA3; rw [awV.2.2.2.1] at HA4; rw [awV.2.2.2.2.1] at HA5
  rw [show askS awP aw0 0 kA 2 = aw1 from rfl] at HA1; rw [show askS awP aw1 0 kA 2 = aw2 from rfl] at HA2; rw [show askS awP aw2 0 kB 1 = aw3 from rfl] at HA3; rw [show askS awP aw3 0 kC 1 = aw4 from rfl] at HA4; rw [show askS awP aw4 1 kC 1 = aw5 from rfl] at HA5
  go_enter Try.func25, Try.ntmps25
  go_wp2_with fail
  refine (HNEW.out _).mono ?_
  rintro e w1 (⟨_, lb, sb, mb, rfl, h1, h2, h3, hl, hb⟩ | ⟨h0, _⟩)
  case inr => exact absurd rfl h0
  have HL1 := Aside0.mk (show LimI w.heap.size w1 lb sb mb awP aw0 from ⟨hl, new_ok awE, h1, h2, h3⟩)
  have HB1 := Aside0.mk (And.intro hb.size hb)
  clear h1 h2 h3 hl hb HNEW
  go_wp2_with fail
  refine (HA1.out _ _ _ _ HL1.out HB1.out.1 HB1.out.2).mono ?_
  rintro e w2 ⟨rfl, hl, hb, hn, _⟩
  have HL2 := Aside0.mk hl
  have HB2 := Aside0.mk (And.intro hn hb)
  clear hl hb hn HA1 HL1 HB1
  go_wp2_with fail
  refine (HA2.out _ _ _ _ HL2.out HB2.out.1 HB2.out.2).mono ?_
  rintro e w3 ⟨rfl, hl, hb, hn, _⟩
  have HL3 := Aside0.mk hl
  have HB3 := Aside0.mk (And.intro hn hb)
  clear hl hb hn HA2 HL2 HB2
  go_wp2_with fail
  refine (HA3.out _ _ _ _ HL3.out HB3.out.1 HB3.out.2).mono ?_
  rintro e w4 ⟨rfl, hl, hb, hn, _⟩
  have HL4 := Aside0.mk hl
  have HB4 := Aside0.mk (And.intro hn hb)
  clear hl hb hn HA3 HL3 HB3
  go_wp2_with fail
  refine (HA4.out _ _ _ _ HL4.out HB4.out.1 HB4.out.2).mono ?_
  rintro e w5 ⟨rfl, hl, hb, hn, _⟩
  have HL5 := Aside0.mk hl
  have HB5 := Aside0.mk (And.intro hn hb)
  clear hl hb hn HA4 HL4 HB4
  go_wp2_with fail
  refine (HA5.out _ _ _ _ HL5.out HB5.out.1 HB5.out.2).mono ?_
  rintro e w6 ⟨rfl, hl, hb, hn, _⟩
  have HL6 := Aside0.mk hl
  have HB6 := Aside0.mk (And.intro hn hb)
  have c0 : w6.cell? ⟨lb, 0, none⟩ = some (.pointer (some ⟨sb, 0, none⟩)) := by rw [cell_of_row w6 _ 0 _ _ _ hl.lim.top]; rfl
  clear hl hb hn HA5 HL5 HB5
  go_wp2_with fail
  refine (Now_fn _ sb mb awP aw5.tick aw5.rows HL6.out.lim.led).mono ?_
  rintro e w7 ⟨rfl, hw⟩
  rw [hw, awV.2.2.2.2.2]
  clear hw
  go_wp2_with fail
  go_ret
  exact ⟨rfl, HB6.out.2⟩
end Go.Proofs.Ytnodnpenlplleaa.Own
