/- Layer 9: a ledger at a later tick: the walk. -/
import Derived.Test.YtnodnpenlplleaaLedI
namespace Go.Proofs.Ytnodnpenlplleaa.Own
open Go.RowKit Go.Proofs.YtnodnpenlplleaaW.PrintWords Go.Proofs.YtnodnpenlplleaaW.PrintLast Go.Proofs.YtnodnpenlplleaaW.PrintMore
open Go.Maps (Keyed)
set_option linter.unusedVariables false
set_option linter.unusedSimpArgs false
attribute [local go_sem] Oper.semAt_some

def moveE (tick t2 : Int) : Int := if tick ≤ t2 ∧ t2 ≤ 1099511627776 then 0 else 60
def tickM (tick t2 : Int) : Int := if moveE tick t2 = 0 then t2 else tick
def rowsM (p : Pol) (tick : Int) (rows : Rws) (t2 : Int) : Rws := if moveE tick t2 = 0 then moveR p tick t2 rows else rows
theorem moveE_ok {tick t2 : Int} : moveE tick t2 = 0 ↔ tick ≤ t2 ∧ t2 ≤ 1099511627776 := by unfold moveE; split <;> simp_all
theorem moveM_ok {p : Pol} {tick : Int} {rows : Rws} (h : OkR p tick rows) (t2 : Int) : OkR p (tickM tick t2) (rowsM p tick rows t2) := by
  unfold tickM rowsM
  split
  · rename_i he
    have := moveE_ok.1 he
    exact move_ok h this.1 this.2
  · exact h
theorem moveM_length (p : Pol) (tick : Int) (rows : Rws) (t2 : Int) : (rowsM p tick rows t2).length ≤ rows.length := by
  unfold rowsM
  split
  · exact move_length rows
  · exact Nat.le_refl _

theorem strike_again {w : World} {mb rb n cnt : Nat} {D : DataW Value} {left : Lit → Bool} {x : ByteArray} (h : w.ranges Try.prog 9 rawR mb rb n D (fun z => strike left x z && !z.sameKey (lk x)) cnt) : w.ranges Try.prog 9 rawR mb rb n D (strike left x) cnt := by
  have e : (fun z => strike left x z && !z.sameKey (lk x)) = strike left x := Maps.strike_twice left (lk x)
  rw [e] at h
  exact h
/-- An entry has come. -/
structure NextOk (w : World) (mb rb n : Nat) (D : DataW Value) (left : Lit → Bool) (cnt : Nat) (x : ByteArray) (c : Value) (w1 : World) (cnt1 : Nat) : Prop where
  size : x.size ≤ maxLen
  isLeft : left (lk x) = true
  atk : ∀ zd, D.atKey (lk x) zd = .held c
  rg : w1.ranges Try.prog 9 rawR mb rb n D (strike left x) cnt1
  lt : cnt1 < cnt
  grown : w.grownBy w1 (some rb)
  entry : (Instr.entry (.pointer (some ⟨rb, 0, none⟩))).run Try.prog w1 = .ok (.tuple #[.string x, c]) w1
def NoneLeft (left : Lit → Bool) : Prop := ∀ kl, left kl = false
theorem wpList_next_led (w : World) {ops : Array Oper} {rest : List Oper} {o : Oper} {a : Act} {Q : Exit → Act → World → Prop} (hg : o.guard = none) (it : Operand) (hop : o.op = Op.next it false) (mb rb n : Nat) (D : DataW Value) (left : Lit → Bool) (cnt : Nat)
    (hit : a.eval it = .pointer (some ⟨rb, 0, none⟩)) (h : w.ranges Try.prog 9 rawR mb rb n D left cnt)
    (hDone : NoneLeft left → wpList Try.prog ops Q rest (a.put o.dst (.tuple #[.bool false])) w)
    (hMore : ∀ x c w1 cnt1, NextOk w mb rb n D left cnt x c w1 cnt1 → wpList Try.prog ops Q rest (a.put o.dst (.tuple #[.bool true, .string x, c])) w1) : wpList Try.prog ops Q (o :: rest) a w :=
  wpList_next_ranges w hg it hop 9 kStr rawR (fun s : ByteArray => Value.string s) (fun c : Value => c) (fun key kl hk => by obtain ⟨x, hx, _⟩ := str_key hk; exact ⟨x, hx⟩) (fun v y hv => ⟨v, rfl⟩) mb rb n D left cnt hit h
    (fun _ hl => hDone hl) (fun x c kl y w1 cnt1 hkey hlx hy hat hrg1 hlt hg1 hs1 hen => by
      obtain ⟨x', ex, rfl, hsz⟩ := str_key hkey
      injection ex with ex
      subst ex
      exact hMore x c w1 cnt1 ⟨hsz, hlx, fun zd => by rw [hat zd, ← Option.some.inj hy], hrg1, hlt, hg1, hen⟩)
theorem led_tick {W : World} {sb mb : Nat} {p : Pol} {tick : Int} {rows : Rws} (h : Led W sb mb p tick rows) (t2 : Int) : Led (W.setCell ⟨sb, 10, none⟩ (.int .i64 t2)) sb mb p t2 rows := by
  have hne := h.ne
  obtain ⟨D, hown, hD⟩ := h.map
  refine ⟨(heap_setCell_same (o := 10) h.blk _).trans rfl, D, hown.setCell (fun e => hne e.symm) _, hD.move fun k cur hc => Below.heap_setCell W _ _ k (fun e => ?_)⟩
  have h2 := h.blk
  subst e
  rw [hc] at h2
  injection h2 with h2
  injection h2 with _ h2
  exact absurd h2 (by decide)

set_option maxRecDepth 100000 in
set_option maxHeartbeats 2000000 in
theorem MoveL_fn (w : World) (sb mb : Nat) (p : Pol) (tick t2 : Int) (rows : Rws) (h : Led w sb mb p tick rows) (ho : OkR p tick rows) (hlen : rows.length < maxLen) :
    Calls Try.prog 18 #[.pointer (some ⟨sb, 0, none⟩), .int .i64 t2] w fun e w' => e = .returned (.int .i64 (moveE tick t2)) ∧ Led w' sb mb p (tickM tick t2) (rowsM p tick rows t2) ∧ Keeps (fun k => k = sb ∨ k = mb) w w' := by
  have c10 : w.cell? ⟨sb, 10, none⟩ = some (.int .i64 tick) := by rw [cell_of_row w _ 10 _ _ _ h.blk]; rfl
  by_cases hg : tick ≤ t2 ∧ t2 ≤ 1099511627776
  case neg =>
    have e1 : moveE tick t2 = 60 := by unfold moveE; rw [if_neg hg]
    have e2 : tickM tick t2 = tick := by unfold tickM; rw [e1, if_neg (by decide)]
    have e3 : rowsM p tick rows t2 = rows := by unfold rowsM; rw [e1, if_neg (by decide)]
    rw [e1, e2, e3]
    have HL := Aside0.mk h
    have hcc : t2 < tick ∨ tick ≤ t2 ∧ 1099511627776 < t2 := by omega
    clear h ho hg e1 e2 e3
    rcases hcc with h1 | ⟨h1, h2⟩
    · go_enter Try.func18, Try.ntmps18
      go_wp2_with fail
      go_ret
      exact ⟨rfl, HL.out, Keeps.refl _ _⟩
    · have h1' : ¬ t2 < tick := by omega
      go_enter Try.func18, Try.ntmps18
      go_wp2_with fail
      go_ret
      exact ⟨rfl, HL.out, Keeps.refl _ _⟩
  case pos =>
    have e1 : moveE tick t2 = 0 := moveE_ok.2 hg
    have e2 : tickM tick t2 = t2 := by unfold tickM; rw [e1, if_pos rfl]
    have e3 : rowsM p tick rows t2 = moveR p tick t2 rows := by unfold rowsM; rw [e1, if_pos rfl]
    rw [e1, e2, e3]
    clear e1 e2 e3
    obtain ⟨g1, g2⟩ := hg
    have n1 : ¬ t2 < tick := by omega
    have n2 : ¬ 1099511627776 < t2 := by omega
    have c11 : w.cell? ⟨sb, 11, none⟩ = some (.map (some mb)) := by rw [cell_of_row w _ 11 _ _ _ h.blk]; rfl
    obtain ⟨D0, hown0, hD0⟩ := h.map
    have HST := Aside0.mk (fun (w0 : World) (hg0 : w.grownBy w0 none) (hown : w0.ownsMap Try.prog 9 rawR mb rows.length D0) => Mid.start (w := w) (wr := w0) (p := p) (tick := tick) (t2 := t2) hown (hD0.move fun k cur hc => hg0.block k (Array.getElem?_eq_some_iff.1 hc).1 (by simp)) ((hg0.block sb h.lt_sb (by simp)).trans h.blk) ⟨hg0.os, hg0.tape, hg0.output, hg0.size, fun k hk _ => hg0.block k hk (by simp)⟩)
    have HO := Aside0.mk ho
    have HLS := Aside0.mk h.lt_sb
    have HPOL := Aside0.mk ho.pol
    have hown0' := hown0
    clear h ho hD0
    go_enter Try.func18, Try.ntmps18
    go_wp2_with (first | (at_range; refine wpList_range_own _ rfl _ 78 rfl 9 85 kStr Try.underlying78 rawR mb rows.length D0 rfl hown0' ?_; intro w0 hrg0 hg0 hs0; have HM0 := Aside0.mk (HST.out w0 hg0 hrg0.owns); have HRG0 := Aside0.mk hrg0; clear hrg0 hg0 hs0; go_frame) | fail)
    clear hown0' hown0 HST c11
    go_loopw [5] (fun _ wr => ∃ (left : Lit → Bool) (cnt : Nat) (D : DataW Value), Aside0 (wr.ranges Try.prog 9 rawR mb w.heap.size rows.length D left cnt ∧ Mid w wr sb mb p tick t2 rows left D)) (fun _ wr => wr.rangeLeft mb w.heap.size)
    case atStart => exact ⟨_, _, D0, ⟨HRG0.out, HM0.out⟩⟩
    case round =>
      obtain ⟨left, cnt, D, BS⟩ := hrel
      clear HM0 HRG0
      go_wp2_with (first | (at_next; refine wpList_next_led _ rfl _ rfl mb w.heap.size rows.length D left cnt rfl BS.out.1 ?_ ?_) | fail)
      · intro hl0
        have HF := Aside0.mk (led_of (p := p) (tick := tick) BS.out.2.blk BS.out.1.owns (BS.out.2.done hl0 HO.out.sorted) (sorted_move HO.out.sorted))
        have HK := Aside0.mk BS.out.2.keeps
        have k10 : wr.cell? ⟨sb, 10, none⟩ = some (.int .i64 tick) := by rw [cell_of_row wr _ 10 _ _ _ BS.out.2.blk]; rfl
        have f10 : wr.frozen? ⟨sb, 10, none⟩ = false := blk_frozen BS.out.2.blk 10
        clear hl0 BS
        go_wp2_with fail
        go_ret
        exact ⟨rfl, led_tick HF.out t2, HK.out.setCell (.inl (.inl rfl)) _⟩
      · intro x c w1 cnt1 hn
        have hen := hn.entry
        have HKEY := Aside0.mk (WideMaps.keyOf_string_mk (P := Try.prog) Try.underlying9 hn.size)
        obtain ⟨mm, hmi⟩ : ∃ s0 c0 seen, wr.heap[w.heap.size]? = some (.mapIter (some mb) s0 seen c0) := by
          obtain ⟨es, clock, since, seen, c0, _, _, _, _, hr, _⟩ := BS.out.1
          exact ⟨since, c0, seen, hr⟩
        obtain ⟨c0, seen, hmi⟩ := hmi
        obtain ⟨d, hlook, hV, hhas⟩ := BS.out.2.entry hn.isLeft hn.atk
        have HM1 := Aside0.mk (BS.out.2.next hmi hn.grown (Nat.le_refl _))
        have HV1 := Aside0.mk (hV.move fun k cur hc => hn.grown.block k (Array.getElem?_eq_some_iff.1 hc).1 (fun e => by injection e with e; subst e; rw [hmi] at hc; cases hc))
        have HRG1 := Aside0.mk hn.rg
        have HLT1 := Aside0.mk hn.lt
        have HLOOK := Aside0.mk hlook
        have HHAS := Aside0.mk hhas
        have hdok := (HO.out.debts _ (lookR_mem hlook)).1
        have HS1 := Aside0.mk (HeldB.one (w0 := w1) (x := (sb, .cells (ledC p tick mb) 80 (0, 0))) HM1.out.blk (Below.refl _ w1))
        have HOK2 := Aside0.mk (later_ok HPOL.out hdok HO.out.tick0 g1 g2)
        have ht0 := HO.out.tick0
        have hpol := HPOL.out
        clear hmi hV hhas hn hlook
        cases d with
        | lev n =>
          have HLD := Aside0.mk (show Debt.later p tick t2 (.lev n) = .lev (mx (n - (t2 - tick) * p.num) 0) from rfl)
          have HLT := Aside0.mk (fun w' => levLater_fn p n tick t2 w' hpol hdok.1 hdok.2.1 hdok.2.2 ht0 g1 g2)
          rw [HLD.out] at HOK2
          have m1 := fun k v w => (lev_later k v w).1
          have m2 := fun k v w => (lev_later k v w).2
          generalize mx (n - (t2 - tick) * p.num) 0 = n' at HLT HLD HOK2
          have hcv := HV1.out
          cases hcv
          obtain ⟨kind, cap, num, den, width, count, keys, slots, every, seg⟩ := p
          simp only [Pol.val, Pol.cells, ledC] at HS1 HLT
          clear hdok ht0 hpol HV1
          go_wp2_with fail
          refine start_ (n := 15) (S := HeldB w1 [(sb, .cells #[.int .i64 kind, .int .i64 cap, .int .i64 num, .int .i64 den, .int .i64 width, .int .i64 count, .int .i64 keys, .int .i64 slots, .int .i64 every, .int .i64 seg, .int .i64 tick, .map (some mb)] 80 (0, 0))]) (ds := []) #[false, false, false, false, false, false, false, false, false, false, false, false, false, false, false] (by kernel_rfl) rfl rfl (HS1.out.drew) (fun hHeld => ?_); refine with_tabW move__tab6 move__bits6 (fun HT_ HW_ => ?_)
          refine pure_ (i := 0) (N := some 27) (v := ?_) (a' := ?_) #[true, false, false, false, false, false, false, false, false, false, false, false, false, false, false] rfl rfl (any_of HT_.out (by kernel_rfl)) (fun _ _ _ h => h) (Or.inl ⟨by rfl, ?_⟩) ?_ ?_
          rotate_left
          · intro w'
            go_simp
            try with_reducible rfl
          rotate_left
          · simp only [Act.put, List.setIfInBounds_toArray, List.set_cons_zero, List.set_cons_succ]
            rfl
          refine pure_ (i := 1) (N := some 28) (v := ?_) (a' := ?_) #[true, true, false, false, false, false, false, false, false, false, false, false, false, false, false] rfl rfl (any_of HT_.out (by kernel_rfl)) (fun _ _ _ h => h) (Or.inl ⟨by rfl, ?_⟩) ?_ ?_
          rotate_left
          · intro w'
            go_simp
            try with_reducible rfl
          rotate_left
          · simp only [Act.put, List.setIfInBounds_toArray, List.set_cons_zero, List.set_cons_succ]
            rfl
          refine pure_ (i := 5) (N := some 32) (v := ?_) (a' := ?_) #[true, true, false, false, false, true, false, false, false, false, false, false, false, false, false] rfl rfl (any_of HT_.out (by kernel_rfl)) (fun _ _ _ h => h) (Or.inl ⟨by rfl, ?_⟩) ?_ ?_
          rotate_left
          · intro w'
            go_simp
            try with_reducible rfl
          rotate_left
          · simp only [Act.put, List.setIfInBounds_toArray, List.set_cons_zero, List.set_cons_succ]
            rfl
          refine pure_ (i := 9) (N := some 36) (v := ?_) (a' := ?_) #[true, true, false, false, false, true, false, false, false, true, false, false, false, false, false] rfl rfl (any_of HT_.out (by kernel_rfl)) (fun _ _ _ h => h) (Or.inl ⟨by rfl, ?_⟩) ?_ ?_
          rotate_left
          · intro w'
            go_simp
            try with_reducible rfl
          rotate_left
          · simp only [Act.put, List.setIfInBounds_toArray, List.set_cons_zero, List.set_cons_succ]
            rfl
          refine pure_ (i := 2) (N := some 29) (v := ?_) (a' := ?_) #[true, true, true, false, false, true, false, false, false, true, false, false, false, false, false] rfl rfl (any_of HT_.out (by kernel_rfl)) (fun _ _ _ h => h) (Or.inl ⟨by rfl, ?_⟩) ?_ ?_
          rotate_left
          · intro w'
            go_simp
            try with_reducible rfl
          rotate_left
          · simp only [Act.put, List.setIfInBounds_toArray, List.set_cons_zero, List.set_cons_succ]
            rfl
          refine pure_ (i := 6) (N := some 33) (v := ?_) (a' := ?_) #[true, true, true, false, false, true, true, false, false, true, false, false, false, false, false] rfl rfl (any_of HT_.out (by kernel_rfl)) (fun _ _ _ h => h) (Or.inl ⟨by rfl, ?_⟩) ?_ ?_
          rotate_left
          · intro w'
            go_simp
            try with_reducible rfl
          rotate_left
          · simp only [Act.put, List.setIfInBounds_toArray, List.set_cons_zero, List.set_cons_succ]
            rfl
          refine pure_ (i := 10) (N := some 37) (v := ?_) (a' := ?_) #[true, true, true, false, false, true, true, false, false, true, true, false, false, false, false] rfl rfl (any_of HT_.out (by kernel_rfl)) (fun _ _ _ h => h) (Or.inl ⟨by rfl, ?_⟩) ?_ ?_
          rotate_left
          · intro w'
            go_simp
            try with_reducible rfl
          rotate_left
          · simp only [Act.put, List.setIfInBounds_toArray, List.set_cons_zero, List.set_cons_succ]
            rfl
          refine pure_ (i := 3) (N := some 30) (v := ?_) (a' := ?_) #[true, true, true, true, false, true, true, false, false, true, true, false, false, false, false] rfl rfl (any_of HT_.out (by kernel_rfl)) (fun _ _ _ h => h) (Or.inl ⟨by rfl, ?_⟩) ?_ ?_
          rotate_left
          · intro w'
            go_simp
            try with_reducible rfl
          rotate_left
          · simp only [Act.put, List.setIfInBounds_toArray, List.set_cons_zero, List.set_cons_succ]
            rfl
          refine pure_ (i := 7) (N := some 34) (v := ?_) (a' := ?_) #[true, true, true, true, false, true, true, true, false, true, true, false, false, false, false] rfl rfl (any_of HT_.out (by kernel_rfl)) (fun _ _ _ h => h) (Or.inl ⟨by rfl, ?_⟩) ?_ ?_
          rotate_left
          · intro w'
            go_simp
            try with_reducible rfl
          rotate_left
          · simp only [Act.put, List.setIfInBounds_toArray, List.set_cons_zero, List.set_cons_succ]
            rfl
          refine pure_ (i := 11) (N := some 38) (v := ?_) (a' := ?_) #[true, true, true, true, false, true, true, true, false, true, true, true, false, false, false] rfl rfl (any_of HT_.out (by kernel_rfl)) (fun _ _ _ h => h) (Or.inl ⟨by rfl, ?_⟩) ?_ ?_
          rotate_left
          · intro w'
            go_simp
            try with_reducible rfl
          rotate_left
          · simp only [Act.put, List.setIfInBounds_toArray, List.set_cons_zero, List.set_cons_succ]
            rfl
          refine pure_ (i := 12) (N := some 39) (v := ?_) (a' := ?_) #[true, true, true, true, false, true, true, true, false, true, true, true, true, false, false] rfl rfl (any_of HT_.out (by kernel_rfl)) (fun _ _ _ h => h) (Or.inl ⟨by rfl, ?_⟩) ?_ ?_
          rotate_left
          · intro w'
            go_simp
            try with_reducible rfl
          rotate_left
          · simp only [Act.put, List.setIfInBounds_toArray, List.set_cons_zero, List.set_cons_succ]
            rfl
          refine take_ (i := 4) (N := some 31) (v := .agg #[.int .i64 kind, .int .i64 cap, .int .i64 num, .int .i64 den, .int .i64 width, .int .i64 count, .int .i64 keys, .int .i64 slots, .int .i64 every, .int .i64 seg]) (a' := ?_) #[true, true, true, true, true, true, true, true, false, true, true, true, true, false, false] rfl rfl (take_ofW HT_.out HW_.out (by kernel_rfl)) (fun _ _ _ h => h) (yields_pre (by rfl) 23 _ rfl sb _ rfl (fun w' hS' => hS'.1 (sb, .cells #[.int .i64 kind, .int .i64 cap, .int .i64 num, .int .i64 den, .int .i64 width, .int .i64 count, .int .i64 keys, .int .i64 slots, .int .i64 every, .int .i64 seg, .int .i64 tick, .map (some mb)] 80 (0, 0)) (by simp)) rfl Try.underlying23 rfl infoPol) hHeld ?_ ?_
          rotate_left
          · simp only [Act.put, List.setIfInBounds_toArray, List.set_cons_zero, List.set_cons_succ]
            rfl
          refine take_ (i := 8) (N := some 35) (v := ?_) (a' := ?_) #[true, true, true, true, true, true, true, true, true, true, true, true, true, false, false] rfl rfl (take_ofW HT_.out HW_.out (by kernel_rfl)) (fun _ _ _ h => h) (Or.inl ⟨by rfl, ?_⟩) hHeld ?_ ?_
          rotate_left
          · intro w' hS'
            have hx := hS'.1 (sb, .cells #[.int .i64 kind, .int .i64 cap, .int .i64 num, .int .i64 den, .int .i64 width, .int .i64 count, .int .i64 keys, .int .i64 slots, .int .i64 every, .int .i64 seg, .int .i64 tick, .map (some mb)] 80 (0, 0)) (by simp)
            have c0 : w'.cell? ⟨sb, 10, none⟩ = some (.int .i64 tick) := by rw [cell_of_row w' _ 10 _ _ _ hx]; rfl
            go_simp
            try with_reducible rfl
          rotate_left
          · simp only [Act.put, List.setIfInBounds_toArray, List.set_cons_zero, List.set_cons_succ]
            rfl
          refine one_ (i := 13) (N := some 40) #[true, true, true, true, true, true, true, true, true, true, true, true, true, true, false] rfl rfl (one_of HT_.out (by kernel_rfl)) (by decide) (fun K hK => ?_)
          refine call_ 125 #[.int .i64 n, .agg #[.int .i64 kind, .int .i64 cap, .int .i64 num, .int .i64 den, .int .i64 width, .int .i64 count, .int .i64 keys, .int .i64 slots, .int .i64 every, .int .i64 seg], .int .i64 tick, .int .i64 t2] (by rfl) rfl (by go_simp) ?_
          refine (HLT.out _).mono ?_
          rintro e w2 ⟨rfl, hb⟩
          refine ⟨_, rfl, ?_⟩
          simp only [Act.put, List.setIfInBounds_toArray, List.set_cons_zero, List.set_cons_succ]
          have HV2 := Aside0.mk (show DebtV w2 (.iface 138 (.int .i64 n')) (.lev n') from rfl)
          refine hK.out _ _ (hHeld.step hb) (fun hHeld => ?_)
          clear hK K
          refine pure_ (i := 14) (N := some 6) (v := ?_) (a' := ?_) #[true, true, true, true, true, true, true, true, true, true, true, true, true, true, true] rfl rfl (any_of HT_.out (by kernel_rfl)) (fun _ _ _ h => h) (Or.inl ⟨by rfl, ?_⟩) ?_ ?_
          rotate_left
          · intro w'
            go_simp
            try with_reducible rfl
          rotate_left
          · simp only [Act.put, List.setIfInBounds_toArray, List.set_cons_zero, List.set_cons_succ]
            rfl
          refine done_ (done_of HT_.out (by kernel_rfl)) ?_
          have HS2 := Aside0.mk hHeld
          clear hHeld HT_ HW_
          go_wp2_with fail
          refine (owes_fn _ ⟨kind, cap, num, den, width, count, keys, slots, every, seg⟩ _ (.lev n') HPOL.out HOK2.out HV2.out).mono ?_
          rintro e w3 ⟨rfl, hb3⟩
          have HS3 := Aside0.mk (HS2.out.step hb3)
          have HV3 := Aside0.mk (HV2.out.move fun k cur hc => hb3.block k (Array.getElem?_eq_some_iff.1 hc).1)
          have cm : w3.cell? ⟨sb, 11, none⟩ = some (.map (some mb)) := by rw [cell_of_row w3 _ 11 _ _ _ (HS3.out.1 (sb, .cells #[.int .i64 kind, .int .i64 cap, .int .i64 num, .int .i64 den, .int .i64 width, .int .i64 count, .int .i64 keys, .int .i64 slots, .int .i64 every, .int .i64 seg, .int .i64 tick, .map (some mb)] 80 (0, 0)) (by simp))]; rfl
          have hrg3 := HRG1.out.kept (Keeps.of_below HS3.out.2 (fun _ => False)).grown (by simp) (by simp)
          have HM3 := Aside0.mk (HM1.out.below HS3.out.2)
          clear HS2 HV2 hb3
          obtain ⟨r, hr⟩ : ∃ r, Debt.owes (.lev n') = r := ⟨_, rfl⟩
          rw [hr]
          have HR := Aside0.mk hr
          clear hr
          cases r with
          | true =>
            go_wp2_with (first | ((with_reducible refine gate_mapup 78 rfl ?_); refine wpList_store_ranges rfl _ _ _ 78 rfl 85 kStr Try.underlying78 rfl hrg3 hlen (.string x) (.iface 138 (.int .i64 n')) (lk x) (.held (.iface 138 (.int .i64 n'))) [] rfl rfl HKEY.out rfl HHAS.out ?_; intro w4 hrg4 htn4; have HRG4 := Aside0.mk hrg4; have HM4 := Aside0.mk (HM3.out.store hrg3.owns htn4 HLOOK.out (HLD.out ▸ HR.out) (HLD.out ▸ HV3.out)); clear hrg4 htn4; go_frame) | fail)
            go_roundw
            case rel => exact ⟨_, _, _, ⟨HRG4.out, HM4.out⟩⟩
            case measure => rw [HRG4.out.left_eq, BS.out.1.left_eq]; exact HLT1.out
          | false =>
            go_wp2_with (first | ((with_reducible refine gate_builtin (b := .delete) (xs := #[.tmp 52, .tmp 53]) rfl ?_); refine wpList_delete_ranges _ rfl _ _ 78 9 rfl 85 kStr Try.underlying78 rawR mb w.heap.size rows.length D _ cnt1 rfl hrg3 (.string x) (lk x) rfl HKEY.out ?_; intro w4 cnt4 hrg4 hle4 htn4; replace hrg4 := strike_again hrg4; have HRG4 := Aside0.mk hrg4; have HM4 := Aside0.mk (HM3.out.drop hrg3.owns htn4 HLOOK.out (HLD.out ▸ HR.out)); have HLE4 := Aside0.mk hle4; clear hrg4 htn4 hle4; go_frame) | fail)
            go_roundw
            case rel => exact ⟨_, _, _, ⟨HRG4.out, HM4.out⟩⟩
            case measure => rw [HRG4.out.left_eq, BS.out.1.left_eq]; exact Nat.lt_of_le_of_lt HLE4.out HLT1.out
        | win g l =>
          have HLD := Aside0.mk (show Debt.later p tick t2 (.win g l) = .win (moveX p.width p.count g l t2).1 (moveX p.width p.count g l t2).2 from rfl)
          have HLT := Aside0.mk (fun A c w' hr => winLater_fn p g tick t2 A c l w' hpol hdok.1 hr hdok.2 (by omega) g2)
          rw [HLD.out] at HOK2
          have m1 := fun k v w => (win_later k v w).1
          have m2 := fun k v w => (win_later k v w).2
          generalize (moveX p.width p.count g l t2).1 = g' at HLT HLD HOK2
          generalize (moveX p.width p.count g l t2).2 = l' at HLT HLD HOK2
          obtain ⟨s, rfl, As, cs, rfl, hcs, hCs, _⟩ := HV1.out
          have HCS := Aside0.mk hCs
          obtain ⟨kind, cap, num, den, width, count, keys, slots, every, seg⟩ := p
          simp only [Pol.val, Pol.cells, ledC] at HS1 HLT
          clear hdok ht0 hpol HV1 hCs
          go_wp2_with fail
          refine start_ (n := 15) (S := HeldB w1 [(sb, .cells #[.int .i64 kind, .int .i64 cap, .int .i64 num, .int .i64 den, .int .i64 width, .int .i64 count, .int .i64 keys, .int .i64 slots, .int .i64 every, .int .i64 seg, .int .i64 tick, .map (some mb)] 80 (0, 0))]) (ds := []) #[false, false, false, false, false, false, false, false, false, false, false, false, false, false, false] (by kernel_rfl) rfl rfl (HS1.out.drew) (fun hHeld => ?_); refine with_tabW move__tab6 move__bits6 (fun HT_ HW_ => ?_)
          refine pure_ (i := 0) (N := some 27) (v := ?_) (a' := ?_) #[true, false, false, false, false, false, false, false, false, false, false, false, false, false, false] rfl rfl (any_of HT_.out (by kernel_rfl)) (fun _ _ _ h => h) (Or.inl ⟨by rfl, ?_⟩) ?_ ?_
          rotate_left
          · intro w'
            go_simp
            try with_reducible rfl
          rotate_left
          · simp only [Act.put, List.setIfInBounds_toArray, List.set_cons_zero, List.set_cons_succ]
            rfl
          refine pure_ (i := 1) (N := some 28) (v := ?_) (a' := ?_) #[true, true, false, false, false, false, false, false, false, false, false, false, false, false, false] rfl rfl (any_of HT_.out (by kernel_rfl)) (fun _ _ _ h => h) (Or.inl ⟨by rfl, ?_⟩) ?_ ?_
          rotate_left
          · intro w'
            go_simp
            try with_reducible rfl
          rotate_left
          · simp only [Act.put, List.setIfInBounds_toArray, List.set_cons_zero, List.set_cons_succ]
            rfl
          refine pure_ (i := 5) (N := some 32) (v := ?_) (a' := ?_) #[true, true, false, false, false, true, false, false, false, false, false, false, false, false, false] rfl rfl (any_of HT_.out (by kernel_rfl)) (fun _ _ _ h => h) (Or.inl ⟨by rfl, ?_⟩) ?_ ?_
          rotate_left
          · intro w'
            go_simp
            try with_reducible rfl
          rotate_left
          · simp only [Act.put, List.setIfInBounds_toArray, List.set_cons_zero, List.set_cons_succ]
            rfl
          refine pure_ (i := 9) (N := some 36) (v := ?_) (a' := ?_) #[true, true, false, false, false, true, false, false, false, true, false, false, false, false, false] rfl rfl (any_of HT_.out (by kernel_rfl)) (fun _ _ _ h => h) (Or.inl ⟨by rfl, ?_⟩) ?_ ?_
          rotate_left
          · intro w'
            go_simp
            try with_reducible rfl
          rotate_left
          · simp only [Act.put, List.setIfInBounds_toArray, List.set_cons_zero, List.set_cons_succ]
            rfl
          refine pure_ (i := 2) (N := some 29) (v := ?_) (a' := ?_) #[true, true, true, false, false, true, false, false, false, true, false, false, false, false, false] rfl rfl (any_of HT_.out (by kernel_rfl)) (fun _ _ _ h => h) (Or.inl ⟨by rfl, ?_⟩) ?_ ?_
          rotate_left
          · intro w'
            go_simp
            try with_reducible rfl
          rotate_left
          · simp only [Act.put, List.setIfInBounds_toArray, List.set_cons_zero, List.set_cons_succ]
            rfl
          refine pure_ (i := 6) (N := some 33) (v := ?_) (a' := ?_) #[true, true, true, false, false, true, true, false, false, true, false, false, false, false, false] rfl rfl (any_of HT_.out (by kernel_rfl)) (fun _ _ _ h => h) (Or.inl ⟨by rfl, ?_⟩) ?_ ?_
          rotate_left
          · intro w'
            go_simp
            try with_reducible rfl
          rotate_left
          · simp only [Act.put, List.setIfInBounds_toArray, List.set_cons_zero, List.set_cons_succ]
            rfl
          refine pure_ (i := 10) (N := some 37) (v := ?_) (a' := ?_) #[true, true, true, false, false, true, true, false, false, true, true, false, false, false, false] rfl rfl (any_of HT_.out (by kernel_rfl)) (fun _ _ _ h => h) (Or.inl ⟨by rfl, ?_⟩) ?_ ?_
          rotate_left
          · intro w'
            go_simp
            try with_reducible rfl
          rotate_left
          · simp only [Act.put, List.setIfInBounds_toArray, List.set_cons_zero, List.set_cons_succ]
            rfl
          refine pure_ (i := 3) (N := some 30) (v := ?_) (a' := ?_) #[true, true, true, true, false, true, true, false, false, true, true, false, false, false, false] rfl rfl (any_of HT_.out (by kernel_rfl)) (fun _ _ _ h => h) (Or.inl ⟨by rfl, ?_⟩) ?_ ?_
          rotate_left
          · intro w'
            go_simp
            try with_reducible rfl
          rotate_left
          · simp only [Act.put, List.setIfInBounds_toArray, List.set_cons_zero, List.set_cons_succ]
            rfl
          refine pure_ (i := 7) (N := some 34) (v := ?_) (a' := ?_) #[true, true, true, true, false, true, true, true, false, true, true, false, false, false, false] rfl rfl (any_of HT_.out (by kernel_rfl)) (fun _ _ _ h => h) (Or.inl ⟨by rfl, ?_⟩) ?_ ?_
          rotate_left
          · intro w'
            go_simp
            try with_reducible rfl
          rotate_left
          · simp only [Act.put, List.setIfInBounds_toArray, List.set_cons_zero, List.set_cons_succ]
            rfl
          refine pure_ (i := 11) (N := some 38) (v := ?_) (a' := ?_) #[true, true, true, true, false, true, true, true, false, true, true, true, false, false, false] rfl rfl (any_of HT_.out (by kernel_rfl)) (fun _ _ _ h => h) (Or.inl ⟨by rfl, ?_⟩) ?_ ?_
          rotate_left
          · intro w'
            go_simp
            try with_reducible rfl
          rotate_left
          · simp only [Act.put, List.setIfInBounds_toArray, List.set_cons_zero, List.set_cons_succ]
            rfl
          refine pure_ (i := 12) (N := some 39) (v := ?_) (a' := ?_) #[true, true, true, true, false, true, true, true, false, true, true, true, true, false, false] rfl rfl (any_of HT_.out (by kernel_rfl)) (fun _ _ _ h => h) (Or.inl ⟨by rfl, ?_⟩) ?_ ?_
          rotate_left
          · intro w'
            go_simp
            try with_reducible rfl
          rotate_left
          · simp only [Act.put, List.setIfInBounds_toArray, List.set_cons_zero, List.set_cons_succ]
            rfl
          refine take_ (i := 4) (N := some 31) (v := .agg #[.int .i64 kind, .int .i64 cap, .int .i64 num, .int .i64 den, .int .i64 width, .int .i64 count, .int .i64 keys, .int .i64 slots, .int .i64 every, .int .i64 seg]) (a' := ?_) #[true, true, true, true, true, true, true, true, false, true, true, true, true, false, false] rfl rfl (take_ofW HT_.out HW_.out (by kernel_rfl)) (fun _ _ _ h => h) (yields_pre (by rfl) 23 _ rfl sb _ rfl (fun w' hS' => hS'.1 (sb, .cells #[.int .i64 kind, .int .i64 cap, .int .i64 num, .int .i64 den, .int .i64 width, .int .i64 count, .int .i64 keys, .int .i64 slots, .int .i64 every, .int .i64 seg, .int .i64 tick, .map (some mb)] 80 (0, 0)) (by simp)) rfl Try.underlying23 rfl infoPol) hHeld ?_ ?_
          rotate_left
          · simp only [Act.put, List.setIfInBounds_toArray, List.set_cons_zero, List.set_cons_succ]
            rfl
          refine take_ (i := 8) (N := some 35) (v := ?_) (a' := ?_) #[true, true, true, true, true, true, true, true, true, true, true, true, true, false, false] rfl rfl (take_ofW HT_.out HW_.out (by kernel_rfl)) (fun _ _ _ h => h) (Or.inl ⟨by rfl, ?_⟩) hHeld ?_ ?_
          rotate_left
          · intro w' hS'
            have hx := hS'.1 (sb, .cells #[.int .i64 kind, .int .i64 cap, .int .i64 num, .int .i64 den, .int .i64 width, .int .i64 count, .int .i64 keys, .int .i64 slots, .int .i64 every, .int .i64 seg, .int .i64 tick, .map (some mb)] 80 (0, 0)) (by simp)
            have c0 : w'.cell? ⟨sb, 10, none⟩ = some (.int .i64 tick) := by rw [cell_of_row w' _ 10 _ _ _ hx]; rfl
            go_simp
            try with_reducible rfl
          rotate_left
          · simp only [Act.put, List.setIfInBounds_toArray, List.set_cons_zero, List.set_cons_succ]
            rfl
          refine one_ (i := 13) (N := some 40) #[true, true, true, true, true, true, true, true, true, true, true, true, true, true, false] rfl rfl (one_of HT_.out (by kernel_rfl)) (by decide) (fun K hK => ?_)
          refine call_ 136 #[.agg #[.int .i64 g, .slice As l.length cs], .agg #[.int .i64 kind, .int .i64 cap, .int .i64 num, .int .i64 den, .int .i64 width, .int .i64 count, .int .i64 keys, .int .i64 slots, .int .i64 every, .int .i64 seg], .int .i64 tick, .int .i64 t2] (by rfl) rfl (by go_simp) ?_
          refine (HLT.out As cs _ (Kd.C_below HCS.out hHeld.2)).mono ?_
          rintro e w2 ⟨s', rfl, hN', hb⟩
          refine ⟨_, rfl, ?_⟩
          simp only [Act.put, List.setIfInBounds_toArray, List.set_cons_zero, List.set_cons_succ]
          have HV2 := Aside0.mk (show DebtV w2 (.iface 142 (.agg #[.int .i64 g', s'])) (.win g' l') from ⟨s', rfl, hN'⟩)
          clear hN'
          refine hK.out _ _ (hHeld.step hb) (fun hHeld => ?_)
          clear hK K
          refine pure_ (i := 14) (N := some 6) (v := ?_) (a' := ?_) #[true, true, true, true, true, true, true, true, true, true, true, true, true, true, true] rfl rfl (any_of HT_.out (by kernel_rfl)) (fun _ _ _ h => h) (Or.inl ⟨by rfl, ?_⟩) ?_ ?_
          rotate_left
          · intro w'
            go_simp
            try with_reducible rfl
          rotate_left
          · simp only [Act.put, List.setIfInBounds_toArray, List.set_cons_zero, List.set_cons_succ]
            rfl
          refine done_ (done_of HT_.out (by kernel_rfl)) ?_
          have HS2 := Aside0.mk hHeld
          clear hHeld HT_ HW_
          go_wp2_with fail
          refine (owes_fn _ ⟨kind, cap, num, den, width, count, keys, slots, every, seg⟩ _ (.win g' l') HPOL.out HOK2.out HV2.out).mono ?_
          rintro e w3 ⟨rfl, hb3⟩
          have HS3 := Aside0.mk (HS2.out.step hb3)
          have HV3 := Aside0.mk (HV2.out.move fun k cur hc => hb3.block k (Array.getElem?_eq_some_iff.1 hc).1)
          have cm : w3.cell? ⟨sb, 11, none⟩ = some (.map (some mb)) := by rw [cell_of_row w3 _ 11 _ _ _ (HS3.out.1 (sb, .cells #[.int .i64 kind, .int .i64 cap, .int .i64 num, .int .i64 den, .int .i64 width, .int .i64 count, .int .i64 keys, .int .i64 slots, .int .i64 every, .int .i64 seg, .int .i64 tick, .map (some mb)] 80 (0, 0)) (by simp))]; rfl
          have hrg3 := HRG1.out.kept (Keeps.of_below HS3.out.2 (fun _ => False)).grown (by simp) (by simp)
          have HM3 := Aside0.mk (HM1.out.below HS3.out.2)
          clear HS2 HV2 hb3
          obtain ⟨r, hr⟩ : ∃ r, Debt.owes (.win g' l') = r := ⟨_, rfl⟩
          rw [hr]
          have HR := Aside0.mk hr
          clear hr
          cases r with
          | true =>
            go_wp2_with (first | ((with_reducible refine gate_mapup 78 rfl ?_); refine wpList_store_ranges rfl _ _ _ 78 rfl 85 kStr Try.underlying78 rfl hrg3 hlen (.string x) (.iface 142 (.agg #[.int .i64 g', s'])) (lk x) (.held (.iface 142 (.agg #[.int .i64 g', s']))) [] rfl rfl HKEY.out rfl HHAS.out ?_; intro w4 hrg4 htn4; have HRG4 := Aside0.mk hrg4; have HM4 := Aside0.mk (HM3.out.store hrg3.owns htn4 HLOOK.out (HLD.out ▸ HR.out) (HLD.out ▸ HV3.out)); clear hrg4 htn4; go_frame) | fail)
            go_roundw
            case rel => exact ⟨_, _, _, ⟨HRG4.out, HM4.out⟩⟩
            case measure => rw [HRG4.out.left_eq, BS.out.1.left_eq]; exact HLT1.out
          | false =>
            go_wp2_with (first | ((with_reducible refine gate_builtin (b := .delete) (xs := #[.tmp 52, .tmp 53]) rfl ?_); refine wpList_delete_ranges _ rfl _ _ 78 9 rfl 85 kStr Try.underlying78 rawR mb w.heap.size rows.length D _ cnt1 rfl hrg3 (.string x) (lk x) rfl HKEY.out ?_; intro w4 cnt4 hrg4 hle4 htn4; replace hrg4 := strike_again hrg4; have HRG4 := Aside0.mk hrg4; have HM4 := Aside0.mk (HM3.out.drop hrg3.owns htn4 HLOOK.out (HLD.out ▸ HR.out)); have HLE4 := Aside0.mk hle4; clear hrg4 htn4 hle4; go_frame) | fail)
            go_roundw
            case rel => exact ⟨_, _, _, ⟨HRG4.out, HM4.out⟩⟩
            case measure => rw [HRG4.out.left_eq, BS.out.1.left_eq]; exact Nat.lt_of_le_of_lt HLE4.out HLT1.out
end Go.Proofs.Ytnodnpenlplleaa.Own
/- Where a ledger or a limiter stands; small lemmas that both chapters use. -/
namespace Go.Proofs.Ytnodnpenlplleaa.Own
open Go.RowKit Go.Proofs.YtnodnpenlplleaaW.PrintWords Go.Proofs.YtnodnpenlplleaaW.PrintLast Go.Proofs.YtnodnpenlplleaaW.PrintMore
set_option linter.unusedVariables false
set_option linter.unusedSimpArgs false

/-- Where a limiter stands. -/
structure LSt where
  tick : Int
  rows : Rws
def kA : ByteArray := ⟨#[97]⟩
def kB : ByteArray := ⟨#[98]⟩
def kC : ByteArray := ⟨#[99]⟩
theorem nodup_sub {α : Type} [DecidableEq α] : ∀ {a b : List α}, a.Nodup → (∀ x ∈ a, x ∈ b) → a.length ≤ b.length
  | [], _, _, _ => Nat.zero_le _
  | x :: a, b, h, hs => by
    rw [List.nodup_cons] at h
    have hx : x ∈ b := hs x (by simp)
    have h1 : a.length ≤ (b.erase x).length := nodup_sub h.2 (fun y hy => by
      have hne : y ≠ x := fun e => h.1 (e ▸ hy)
      exact (List.mem_erase_of_ne hne).2 (hs y (by simp [hy])))
    rw [List.length_erase_of_mem hx] at h1
    have h2 : 0 < b.length := List.length_pos_of_mem hx
    simp only [List.length_cons]
    omega
theorem sorted_nodup {l : List ByteArray} (h : l.Pairwise klt) : l.Nodup := h.imp (fun {a b} hab e => by subst e; exact klt_irrefl _ hab)

end Go.Proofs.Ytnodnpenlplleaa.Own
