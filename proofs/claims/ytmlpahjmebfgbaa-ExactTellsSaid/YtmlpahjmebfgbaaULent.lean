/- Lemmas for a claim of this seat: texts of this session and of the kit's print, without what this claim does not use. -/
import Derived.Test.YtmlpahjmebfgbaaUGiven
import Derived.Laws.MakeOwn
import Derived.Laws.OwnMore
namespace Go.Proofs.Ytmlpahjmebfgbaa.Own
open Go.RowKit Go.Proofs.YtmlpahjmebfgbaaW.PrintWords Go.Proofs.YtmlpahjmebfgbaaW.PrintLast Go.Proofs.YtmlpahjmebfgbaaW.PrintMore Go.Proofs.Ytmlpahjmebfgbaa.PEx
set_option linter.unusedVariables false
set_option linter.unusedSimpArgs false

/-- The mark behind what is lent. -/
def markR : S42 := ⟨-77, ⟨#[]⟩, 0, 0⟩
theorem info42' : ∃ i, Try.prog.info? 42 = some i ∧ i.zero = some (.agg #[.int .i64 0, .string ⟨#[]⟩, .int .i64 0, .int .i64 0]) ∧ i.size = 4 ∧ i.bytes = 40 := by
  have h := info42
  cases e : Try.prog.info? 42 with
  | none => rw [e] at h; cases h
  | some i => rw [e] at h; simp only [Option.map_some, Option.some.injEq, Prod.mk.injEq] at h; exact ⟨i, rfl, h.1, h.2.1, h.2.2⟩

theorem grown_below {w w' : World} {g : Nat} (h : w.grownBy w' (some g)) {B : Nat} (hg : B ≤ g) (hB : B ≤ w.heap.size) : Below B w w' := ⟨h.os, h.tape, h.output, h.size, fun k hk => h.block k (by omega) (fun e => by injection e with e; omega)⟩

section
variable {P : Program} {ops : Array Oper} {rest : List Oper} {o : Oper} {a : Act} {Q : Exit → Act → World → Prop} {w w' : World}
/-- A 'make' whose run is known. -/
theorem make_step (hg : o.guard = none) {t : TypeId} {x y : Operand} (hop : o.op = .makeSlice t x y) {v1 v2 v' : Value} (h1 : a.eval x = v1) (h2 : a.eval y = v2) (hrun : (Instr.makeSlice t v1 v2).run P w = .ok v' w') (h : wpList P ops Q rest (a.put o.dst v') w') : wpList P ops Q (o :: rest) a w := by
  refine wpList_plain hg fun K hK => ?_
  unfold Oper.wp
  simp [execOp, hop, h1, h2, hrun, Result.andThen]
  exact hK _ _ h
/-- An append whose run is known. -/
theorem append_step (hg : o.guard = none) {t : TypeId} {s x : Operand} (hop : o.op = .call { callee := .builtin .append, args := #[s, x], argTypes := #[t, t] }) {v1 v2 v' : Value} (h1 : a.eval s = v1) (h2 : a.eval x = v2)
    (hrun : (Builtin.append_ #[t, t] o.type #[v1, v2]).run P w = .ok v' w') (h : wpList P ops Q rest (a.put o.dst v') w') : wpList P ops Q (o :: rest) a w := by
  refine wpList_plain hg fun K hK => ?_
  unfold Oper.wp execOp
  simp only [hop, resolve, invoke, builtin, Sem.run_bind, Sem.run_pure, Result.andThen_ok, List.map_toArray, List.map_cons, List.map_nil, h1, h2, hrun]
  exact hK _ _ h
theorem gmake {x y : Operand} (t : TypeId) (_ : o.op = .makeSlice t x y) (h : wpList P ops Q (o :: rest) a w) : wpList P ops Q (o :: rest) a w := h
end

set_option maxRecDepth 100000 in
set_option maxHeartbeats 4000000 in
theorem Lent_fn (A : Option Addr) (c : Nat) (l : List S42) (w : World) (hr : Kd.C k42 w A l.length l) (hA : A = none → c = 0) (hsz : l.length * 40 ≤ 140737488351232) :
    Calls Try.prog 11 #[.slice A l.length c] w fun e w' => ∃ g, e = .returned (.slice (some ⟨g, 0, none⟩) l.length (l.length + 1)) ∧ w.heap.size ≤ g ∧ Kd.C k42 w' (some ⟨g, 0, none⟩) (l.length + 1) (l ++ [markR]) ∧ Below w.heap.size w w' := by
  obtain ⟨i, hi, hz, hsize, hby⟩ := info42'
  have ht : Try.prog.underlying 24 = some (.slice 42) := Try.underlying24
  obtain ⟨w1, hmake, hown1, hg1⟩ := run_make_own (P := Try.prog) w w.heap.size 24 42 i _ 4 ht hi hz hsize .i64 .i64 (l.length + 1) (by rw [hby]; omega) (by simp only [maxLen]; omega) (Nat.le_refl _)
  have hb1 : Below w.heap.size w w1 := ⟨hg1.os, hg1.tape, hg1.output, hg1.size, fun k hk => hg1.block k hk (by simp)⟩
  obtain ⟨inner, hR, hcells⟩ : ∃ inner, Reps (k42.K w1) 4 l inner ∧ ∀ ad, A = some ad → ∀ j u, inner[j]? = some u → w1.cell? (ad.add j) = some u := by
    have hr1 := Kd.C_below hr hb1
    cases A with
    | some ad =>
      obtain ⟨inner, h1, h2⟩ := ReadsRow.inner_ hr1
      exact ⟨inner, h1, fun _ e => by cases e; exact h2⟩
    | none =>
      have : l = [] := by
        rcases Nat.eq_zero_or_pos l.length with h | h
        · exact List.eq_nil_of_length_eq_zero h
        · obtain ⟨ad, e, _⟩ := hr.2.2 h; cases e
      subst this
      exact ⟨[], Reps.none _ _, fun ad e => by cases e⟩
  have hil : inner.length = l.length * 4 := hR.1
  obtain ⟨w2, hap1, hown2, hg2⟩ : ∃ w2, (Builtin.append_ #[24, 24] 24 #[.slice (some ⟨w.heap.size, 0, none⟩) 0 (l.length + 1), .slice A l.length c]).run Try.prog w1 = .ok (.slice (some ⟨w.heap.size, 0, none⟩) l.length (l.length + 1)) w2 ∧
      w2.ownsRow w.heap.size 42 4 (.slice (some ⟨w.heap.size, 0, none⟩) l.length (l.length + 1)) l.length inner ∧ w1.grownBy w2 (some w.heap.size) := by
    cases A with
    | some ad =>
      obtain ⟨w2, h1, h2, h3⟩ := run_append_fits (P := Try.prog) w1 w.heap.size 24 24 42 i 4 ht hi hsize w.heap.size 0 (l.length + 1) [] hown1 ad l.length c inner hil (hcells ad rfl) (fun u hu => by
        obtain ⟨j, hj⟩ := List.mem_iff_getElem?.1 hu
        obtain ⟨hjl, _⟩ := List.getElem?_eq_some_iff.1 hj
        have hlt : j / 4 < l.length := by omega
        have h4 := hR.2 (j / 4) _ (List.getElem?_eq_getElem hlt)
        have h5 := k42.K_one h4
        refine h5 u (List.mem_iff_getElem?.2 ⟨j % 4, ?_⟩)
        rw [List.getElem?_take, if_pos (by show j % 4 < 4; omega), List.getElem?_drop]
        show inner[j / 4 * 4 + j % 4]? = some u
        rw [show j / 4 * 4 + j % 4 = j from by omega]
        exact hj) (by omega)
      rw [Nat.zero_add, List.nil_append] at *
      exact ⟨w2, h1, h2, h3⟩
    | none =>
      have hl : l = [] := by
        rcases Nat.eq_zero_or_pos l.length with h | h
        · exact List.eq_nil_of_length_eq_zero h
        · obtain ⟨ad, e, _⟩ := hr.2.2 h; cases e
      subst hl
      have hin : inner = [] := List.eq_nil_of_length_eq_zero (by simpa using hil)
      subst hin
      rw [hA rfl]
      exact ⟨w1, run_append_owned_none (P := Try.prog) w1 w.heap.size 24 24 42 i 4 ht hi _ 0 [] hown1, hown1, ⟨rfl, rfl, rfl, Nat.le_refl _, fun _ _ _ => rfl⟩⟩
  obtain ⟨w3, hw3⟩ : ∃ w3, w2.alloc (.cells #[.int .i64 (-77), .string ⟨#[]⟩, .int .i64 0, .int .i64 0] 42 (0, 0)) = w3 := ⟨_, rfl⟩
  have hb23 : Below w2.heap.size w2 w3 := by rw [← hw3]; exact (Below.refl _ w2).alloc (Nat.le_refl _) _
  have hx3 : w3.heap[w2.heap.size]? = some (.cells #[.int .i64 (-77), .string ⟨#[]⟩, .int .i64 0, .int .i64 0] 42 (0, 0)) := by rw [← hw3]; exact heap_alloc_new w2 _
  have hown3 : w3.ownsRow w.heap.size 42 4 (.slice (some ⟨w.heap.size, 0, none⟩) l.length (l.length + 1)) l.length inner := by rw [← hw3]; exact hown2.alloc _
  obtain ⟨w4, hap2, hown4, hg4⟩ := run_append_fits (P := Try.prog) w3 w.heap.size 24 24 42 i 4 ht hi hsize w.heap.size l.length (l.length + 1) inner hown3 ⟨w2.heap.size, 0, none⟩ 1 1 [.int .i64 (-77), .string ⟨#[]⟩, .int .i64 0, .int .i64 0] rfl (by
      intro j u hj
      have e : (⟨w2.heap.size, 0, none⟩ : Addr).add j = ⟨w2.heap.size, j, none⟩ := by simp [Addr.add]; omega
      rw [e, cell_of_row w3 _ _ _ _ _ hx3]
      simpa using hj) (by simp [Value.oneCell']) (by omega)
  have hs1 := hb1.size
  have hfin : Below w.heap.size w w4 := hb1.trans ((grown_below hg2 (Nat.le_refl _) hs1).trans ((hb23.mono (by have := hg2.size; omega)).trans (grown_below hg4 (Nat.le_refl _) (by have := hg2.size; have := hb23.size; omega))))
  have hC : Kd.C k42 w4 (some ⟨w.heap.size, 0, none⟩) (l.length + 1) (l ++ [markR]) := by
    obtain ⟨A', c', e, hrr⟩ := own_reads_row hown4 ((hR.imp_ (R' := k42.K w4) (fun _ _ h => k42_any h)).snoc (p := markR) (k42_mk w4 markR) rfl) (by simp)
    cases e
    exact hrr
  have HF := Aside0.mk hfin
  have HC := Aside0.mk hC
  clear hfin hC hg4 hown4 hown3 hx3 hb23 hg2 hown2 hcells hR hb1 hown1 hg1 hi hz hsize hby ht hil hs1
  refine calls_of_wp Try.func11 rfl ?_
  simp only [Try.ntmps11, List.size_toArray, List.length_cons, List.length_nil, Nat.reduceAdd, Nat.reduceSub, Array.replicate_succ, Array.replicate_zero, List.push_toArray, List.append_toArray, List.nil_append, List.cons_append]
  have e1 : (((l.length + 1 : Nat)) : Int) = (l.length : Int) + 1 := by omega
  rw [e1] at hmake
  have HR := Aside0.mk hr
  have HA := Aside0.mk hA
  have HAP1 := Aside0.mk hap1
  have HAP2 := Aside0.mk hap2
  have HW3 := Aside0.mk hw3
  have HM := Aside0.mk hmake
  clear e1 hr hA hap1 hap2 hw3 hmake
  go_wp2_with (first | ((with_reducible refine gmake 24 rfl ?_); refine make_step rfl rfl rfl rfl HM.out ?_) | ((with_reducible refine gate_builtin (b := .append) (xs := #[.tmp 7, .tmp 8]) rfl ?_); refine append_step rfl rfl rfl rfl HAP1.out ?_) | ((with_reducible refine gate_builtin (b := .append) (xs := #[.tmp 10, .tmp 12]) rfl ?_); rw [HW3.out]; refine append_step rfl rfl rfl rfl HAP2.out ?_) | fail)
  go_ret
  exact ⟨w.heap.size, rfl, Nat.le_refl _, HC.out, HF.out⟩

theorem rd_left (l m : List S42) {j : Nat} (h : j < l.length) : rd_T42 (l ++ m) (j : Int) = rd_T42 l (j : Int) := by
  unfold rd_T42
  rw [Int.toNat_natCast, List.getD_eq_getElem?_getD, List.getD_eq_getElem?_getD, List.getElem?_append_left h]
theorem rd_mark (l : List S42) : rd_T42 (l ++ [markR]) (l.length : Int) = markR := by
  unfold rd_T42
  rw [Int.toNat_natCast, List.getD_eq_getElem?_getD, List.getElem?_append_right (Nat.le_refl _)]
  simp

set_option maxRecDepth 100000 in
set_option maxHeartbeats 4000000 in
theorem Kept_fn (ag : Addr) (A : Option Addr) (c : Nat) (l : List S42) (w : World) (hl : Kd.C k42 w (some ag) (l.length + 1) (l ++ [markR])) (hr : Kd.C k42 w A l.length l) (hsz : l.length * 40 ≤ 140737488351232) :
    Calls Try.prog 15 #[.slice (some ag) l.length (l.length + 1), .slice A l.length c] w fun e w' => e = .returned (.bool true) ∧ Below w.heap.size w w' := by
  obtain ⟨ad, eA, m0, _, _, _⟩ := at_T42 hl (l.length : Int) (by omega) (by omega)
  cases eA
  rw [rd_mark] at m0
  have e77 : markR.f0 = -77 := rfl
  rw [e77] at m0
  simp only [Int.toNat_natCast] at m0
  have HL := Aside0.mk hl
  have HR := Aside0.mk hr
  clear hl hr e77
  refine calls_of_wp Try.func15 rfl ?_
  simp only [Try.ntmps15, List.size_toArray, List.length_cons, List.length_nil, Nat.reduceAdd, Nat.reduceSub, Array.replicate_succ, Array.replicate_zero, List.push_toArray, List.append_toArray, List.nil_append, List.cons_append]
  have i0 : (0 : Int) ≤ (l.length : Int) := by omega
  go_wp2_with fail
  clear m0
  go_loopw [6] (fun i wr => ∃ j : Nat, j ≤ l.length ∧ i = .int .i64 (j : Int) ∧ Aside0 (Below w.heap.size w wr)) (fun i _ => l.length - (intOf i).toNat)
  case atStart => exact ⟨0, by omega, rfl, ⟨Below.refl _ _⟩⟩
  case round =>
    obtain ⟨j, hj, rfl, BS⟩ := hrel
    by_cases hlt : j < l.length
    · obtain ⟨ad1, e1, x0, x1, x2, x3⟩ := at_T42 HL.out (j : Int) (by omega) (by omega)
      cases e1
      rw [rd_left l [markR] hlt] at x0 x1 x2 x3
      obtain ⟨ad2, e2, y0, y1, y2, y3⟩ := at_T42 HR.out (j : Int) (by omega) (by omega)
      subst e2
      replace x0 := (BS.out.cell (World.block_lt_of_cell? w _ x0)).trans x0
      replace x1 := (BS.out.cell (World.block_lt_of_cell? w _ x1)).trans x1
      replace x2 := (BS.out.cell (World.block_lt_of_cell? w _ x2)).trans x2
      replace x3 := (BS.out.cell (World.block_lt_of_cell? w _ x3)).trans x3
      replace y0 := (BS.out.cell (World.block_lt_of_cell? w _ y0)).trans y0
      replace y1 := (BS.out.cell (World.block_lt_of_cell? w _ y1)).trans y1
      replace y2 := (BS.out.cell (World.block_lt_of_cell? w _ y2)).trans y2
      replace y3 := (BS.out.cell (World.block_lt_of_cell? w _ y3)).trans y3
      simp only [Int.toNat_natCast] at x0 x1 x2 x3 y0 y1 y2 y3
      have j0 : (0 : Int) ≤ (j : Int) := by omega
      have j1 : (j : Int) < (l.length : Int) := by omega
      generalize rd_T42 l (j : Int) = x at x0 x1 x2 x3 y0 y1 y2 y3
      go_wp2_with fail
      go_quiet (fail)
      have HN : Aside0 (Below w.heap.size w (wr.drewN nq)) := ⟨pw_below_drewN BS.out _⟩
      clear x0 x1 x2 x3 y0 y1 y2 y3 BS
      go_wp2_with fail
      go_roundw
      case rel => exact ⟨j + 1, by omega, by go_num, HN⟩
      case measure => simp [intOf]; omega
    · obtain rfl : j = l.length := by omega
      go_wp2_with fail
      go_ret
      exact ⟨rfl, BS.out⟩
end Go.Proofs.Ytmlpahjmebfgbaa.Own
