/- Lemmas for a claim of this seat: texts of this session and of the kit's print, without what this claim does not use. -/
import Derived.Test.YtmlpahjmebfgbaaUBook
section
namespace Go.Proofs.Ytmlpahjmebfgbaa.Own
open Go.RowKit Go.Proofs.YtmlpahjmebfgbaaW.PrintWords Go.Proofs.YtmlpahjmebfgbaaW.PrintLast Go.Proofs.YtmlpahjmebfgbaaW.PrintMore Go.Proofs.Ytmlpahjmebfgbaa.PEx
open Go.Maps (Keyed)
set_option linter.unusedVariables false
set_option linter.unusedSimpArgs false
attribute [local go_sem] Oper.semAt_some

def put_T3 : Bool × List (List Nat × List Nat) := (true, [([], []), ([], []), ([1], [1]), ([], []), ([], []), ([4], [4]), ([], []), ([6], [6]), ([3, 5, 7], [3, 5, 7]), ([], []), ([9], [9]), ([8, 10], [8, 10]), ([0, 2, 11, 11, 0, 1, 2, 3, 4, 5, 6, 7, 8, 9, 10, 11], [0, 2, 11])])
def put_B3 : List Nat := [0, 0, 2, 0, 0, 16, 0, 64, 248, 0, 512, 2040, 4095]
theorem put_tab3 : rtab .any (opsOf Try.f44 3) = put_T3 := by kernel_rfl
theorem put_bits3 : waitsOk put_T3.2 put_B3 = true := by kernel_rfl

theorem kBook : Keyed Try.prog 9 := Maps.string_keyed Try.underlying9
theorem zero63 (w : World) : (zeroValue 63).run Try.prog w = .ok (.slice none 0 0) w := by
  have h : (Try.prog.info? 63).map (fun i => i.zero) = some (some (.slice none 0 0)) := by kernel_rfl
  cases e : Try.prog.info? 63 with
  | none => rw [e] at h; cases h
  | some i => rw [e] at h; simp at h; simp [zeroValue, typeInfo, e, h]

theorem results_none (tmps : Array Value) (w : World) : Sem.run Try.prog (results Try.f44 tmps) w = .ok (.tuple #[]) w := by
  simp [results, Try.f44, go_sem]

theorem append_one {P : Program} {ops : Array Oper} {oi : Oper} {N : Option Tmp} {a : Act} {w w' : World} {K : Act → World → Prop} {Q : Exit → Act → World → Prop} {s x : Operand} {t : TypeId} {v1 v2 v' : Value} (hop : oi.op = .call { callee := .builtin .append, args := #[s, x], argTypes := #[t, t] })
    (hw : Region.wanted oi (yielded ops a.tmps) = true) (h1 : a.eval s = v1) (h2 : a.eval x = v2) (hrun : (Builtin.append_ #[t, t] oi.type #[v1, v2]).run P w = .ok v' w') (hN : oi.dst = N) (hK : K (a.put N v') w') : if Region.wanted oi (yielded ops a.tmps) = true then Oper.wp P oi a w K Q else K (a.put N undef) w := by
  rw [if_pos hw]
  subst hN
  unfold Oper.wp execOp
  simp only [hop, resolve, invoke, builtin, Sem.run_bind, Sem.run_pure, Result.andThen_ok, List.map_toArray, List.map_cons, List.map_nil, h1, h2, hrun]
  exact hK
theorem update_one {P : Program} {ops : Array Oper} {oi : Oper} {N : Option Tmp} {a : Act} {w w' : World} {K : Act → World → Prop} {Q : Exit → Act → World → Prop} {m k x : Operand} {t : TypeId} {v1 v2 v3 : Value} (hop : oi.op = .mapUpdate t m k x)
    (hw : Region.wanted oi (yielded ops a.tmps) = true) (h1 : a.eval m = v1) (h2 : a.eval k = v2) (h3 : a.eval x = v3) (hrun : (Instr.mapUpdate t v1 v2 v3).run P w = .ok () w') (hN : oi.dst = N) (hK : K (a.put N undef) w') : if Region.wanted oi (yielded ops a.tmps) = true then Oper.wp P oi a w K Q else K (a.put N undef) w := by
  rw [if_pos hw]
  subst hN
  unfold Oper.wp
  simp [execOp, hop, h1, h2, h3, hrun, Result.andThen]
  exact hK

set_option maxRecDepth 100000 in
set_option maxHeartbeats 4000000 in
theorem put_fn (b : Nat) (xs : List S42) (r : S42) (w : World) (hB : Book w b xs) (hlen : xs.length ≤ 10000) (hk : r.f1.size ≤ maxLen) :
    Calls Try.prog 44 #[.map (some b), .agg #[.int .i64 r.f0, .string r.f1, .int .i64 r.f2, .int .i64 r.f3]] w fun e w' => e = .returned (.tuple #[]) ∧ Book w' b (xs ++ [r]) ∧ Keeps (fun k => k = b) w w' := by
  have hblt := hB.lt
  obtain ⟨f0, f1, f2, f3⟩ := r
  simp only at hk
  by_cases hf : f3 = 1
  case neg =>
    have hout : Book w b (xs ++ [⟨f0, f1, f2, f3⟩]) := by
      obtain ⟨D, n, h1, h2, h3⟩ := hB
      refine ⟨D, n, h1, by simp; omega, fun key => ?_⟩
      rw [own_snoc, if_neg (by simp [hf])]
      exact h3 key
    clear hB
    have HOut := Aside0.mk hout
    clear hout
    refine calls_of_wp Try.func44 rfl ?_
    simp only [Try.ntmps44, List.size_toArray, List.length_cons, List.length_nil, Nat.reduceAdd, Nat.reduceSub, Array.replicate_succ, Array.replicate_zero, List.push_toArray, List.append_toArray, List.nil_append, List.cons_append]
    go_wp2
    refine ⟨rfl, _, results_none _ _, rfl, HOut.out.below ((Below.refl _ w).alloc (Nat.le_refl _) _), (Keeps.refl _ _).alloc _⟩
  case pos =>
    subst hf
    obtain ⟨D, n, hown, hn, hD⟩ := hB
    obtain ⟨es, clock, hmap⟩ := book_map hown
    obtain ⟨v0, hv0, A, c, e0, hc, hnil, hC, hTy⟩ := (hD f1).2
    subst e0
    have hkey := WideMaps.keyOf_string_mk Try.underlying9 hk
    obtain ⟨W1, hW1⟩ : ∃ W1, w.alloc (.cells #[.int .i64 f0, .string f1, .int .i64 f2, .int .i64 1] 42 (0, 0)) = W1 := ⟨_, rfl⟩
    have hown1 : W1.ownsMap Try.prog 9 rawR b n D := by rw [← hW1]; exact hown.alloc _
    obtain ⟨vl, ps, hlook, hvl⟩ := hown1.lookup kBook Try.underlying59 (zero63 W1) (z := .slice none 0 0) (zd := .held (.slice none 0 0)) (zp := []) rfl hkey
    have hvl' : vl = .slice A (own f1 xs).length c := by
      have h1 : D.atKey (lk f1) (.held (.slice none 0 0)) = .held vl := by
        have := congrArg Prod.fst (Option.some.inj hvl); exact this.symm
      rw [hv0] at h1; injection h1 with h1; exact h1.symm
    subst hvl'
    have hb1 : Below w.heap.size w W1 := by rw [← hW1]; exact (Below.refl _ w).alloc (Nat.le_refl _) _
    have hx1 : W1.heap[w.heap.size]? = some (.cells #[.int .i64 f0, .string f1, .int .i64 f2, .int .i64 1] 42 (0, 0)) := by rw [← hW1]; exact heap_alloc_new w _
    have hs1 : W1.heap.size = w.heap.size + 1 := by rw [← hW1]; simp
    have hD1 : BookD W1 D xs := fun key => ⟨(hD key).1, by
      obtain ⟨v, e, hr⟩ := (hD key).2
      exact ⟨v, e, hr.below hb1⟩⟩
    have hmap1 : W1.heap[b]? = some (.map es clock) := (hb1.block b hblt).trans hmap
    have hC1 := Kd.C_below hC hb1
    have hol := own_length f1 xs
    have HOWN := Aside0.mk hown1
    have HD := Aside0.mk hD1
    have HM := Aside0.mk hmap1
    have HC := Aside0.mk hC1
    have HX := Aside0.mk hx1
    have HS := Aside0.mk hs1
    have HB := Aside0.mk hb1
    have HN := Aside0.mk hn
    have c0 : W1.cell? ⟨w.heap.size, 0, none⟩ = some (.int .i64 f0) := by rw [cell_of_row W1 _ 0 _ _ _ hx1]; rfl
    have c1 : W1.cell? ⟨w.heap.size, 1, none⟩ = some (.string f1) := by rw [cell_of_row W1 _ 1 _ _ _ hx1]; rfl
    have c2 : W1.cell? ⟨w.heap.size, 2, none⟩ = some (.int .i64 f2) := by rw [cell_of_row W1 _ 2 _ _ _ hx1]; rfl
    have c3 : W1.cell? ⟨w.heap.size, 3, none⟩ = some (.int .i64 1) := by rw [cell_of_row W1 _ 3 _ _ _ hx1]; rfl
    clear hTy hown hD hmap hC hown1 hD1 hmap1 hC1 hx1 hs1 hvl hv0 hb1
    generalize hO : own f1 xs = l at hol hnil hc hlook HC
    have HO := Aside0.mk hO
    have HNIL := Aside0.mk hnil
    clear hO hn hnil
    refine calls_of_wp Try.func44 rfl ?_
    simp only [Try.ntmps44, List.size_toArray, List.length_cons, List.length_nil, Nat.reduceAdd, Nat.reduceSub, Array.replicate_succ, Array.replicate_zero, List.push_toArray, List.append_toArray, List.nil_append, List.cons_append]
    go_wp2
    clear hW1 hlook

    refine start_ (n := 13) (S := fun w' => w'.cell? ⟨w.heap.size, 0, none⟩ = some (.int .i64 f0) ∧ w'.cell? ⟨w.heap.size, 1, none⟩ = some (.string f1) ∧ w'.cell? ⟨w.heap.size, 2, none⟩ = some (.int .i64 f2) ∧ w'.cell? ⟨w.heap.size, 3, none⟩ = some (.int .i64 1)) (ds := []) #[false, false, false, false, false, false, false, false, false, false, false, false, false] (by kernel_rfl) rfl rfl (⟨c0, c1, c2, c3⟩) (fun hHeld => ?_); refine with_tabW put_tab3 put_bits3 (fun HT_ HW_ => ?_)
    refine pure_ (i := 0) (N := some 12) (v := ?_) (a' := ?_) #[true, false, false, false, false, false, false, false, false, false, false, false, false] rfl rfl (any_of HT_.out (by kernel_rfl)) (fun _ _ _ h => h) (Or.inl ⟨by rfl, ?_⟩) ?_ ?_
    rotate_left
    · intro w'
      go_simp
      try with_reducible rfl
    rotate_left
    · simp only [Act.put, List.setIfInBounds_toArray, List.set_cons_zero, List.set_cons_succ]
      rfl
    refine pure_ (i := 1) (N := some 13) (v := ?_) (a' := ?_) #[true, true, false, false, false, false, false, false, false, false, false, false, false] rfl rfl (any_of HT_.out (by kernel_rfl)) (fun _ _ _ h => h) (Or.inl ⟨by rfl, ?_⟩) ?_ ?_
    rotate_left
    · intro w'
      go_simp
      try with_reducible rfl
    rotate_left
    · simp only [Act.put, List.setIfInBounds_toArray, List.set_cons_zero, List.set_cons_succ]
      rfl
    refine take_ (i := 2) (N := some 14) (v := ?_) (a' := ?_) #[true, true, true, false, false, false, false, false, false, false, false, false, false] rfl rfl (take_ofW HT_.out HW_.out (by kernel_rfl)) (fun _ _ _ h => h) (Or.inl ⟨by rfl, ?_⟩) hHeld ?_ ?_
    rotate_left
    · rintro w' ⟨s0, s1, s2, s3⟩
      go_simp
      try with_reducible rfl
    rotate_left
    · simp only [Act.put, List.setIfInBounds_toArray, List.set_cons_zero, List.set_cons_succ]
      rfl
    refine pure_ (i := 3) (N := some 15) (v := ?_) (a' := ?_) #[true, true, true, true, false, false, false, false, false, false, false, false, false] rfl rfl (any_of HT_.out (by kernel_rfl)) (fun _ _ _ h => h) (Or.inl ⟨by rfl, ?_⟩) ?_ ?_
    rotate_left
    · intro w'
      go_simp
      try with_reducible rfl
    rotate_left
    · simp only [Act.put, List.setIfInBounds_toArray, List.set_cons_zero, List.set_cons_succ]
      rfl
    refine pure_ (i := 4) (N := some 16) (v := ?_) (a' := ?_) #[true, true, true, true, true, false, false, false, false, false, false, false, false] rfl rfl (any_of HT_.out (by kernel_rfl)) (fun _ _ _ h => h) (Or.inl ⟨by rfl, ?_⟩) ?_ ?_
    rotate_left
    · intro w'
      go_simp
      try with_reducible rfl
    rotate_left
    · simp only [Act.put, List.setIfInBounds_toArray, List.set_cons_zero, List.set_cons_succ]
      rfl
    refine pure_ (i := 5) (N := some 17) (v := ?_) (a' := ?_) #[true, true, true, true, true, true, false, false, false, false, false, false, false] rfl rfl (any_of HT_.out (by kernel_rfl)) (fun _ _ _ h => h) (Or.inl ⟨by rfl, ?_⟩) ?_ ?_
    rotate_left
    · intro w'
      go_simp
      try with_reducible rfl
    rotate_left
    · simp only [Act.put, List.setIfInBounds_toArray, List.set_cons_zero, List.set_cons_succ]
      rfl
    refine pure_ (i := 6) (N := some 18) (v := ?_) (a' := ?_) #[true, true, true, true, true, true, true, false, false, false, false, false, false] rfl rfl (any_of HT_.out (by kernel_rfl)) (fun _ _ _ h => h) (Or.inl ⟨by rfl, ?_⟩) ?_ ?_
    rotate_left
    · intro w'
      go_simp
      try with_reducible rfl
    rotate_left
    · simp only [Act.put, List.setIfInBounds_toArray, List.set_cons_zero, List.set_cons_succ]
      rfl
    refine pure_ (i := 7) (N := some 19) (v := ?_) (a' := ?_) #[true, true, true, true, true, true, true, true, false, false, false, false, false] rfl rfl (any_of HT_.out (by kernel_rfl)) (fun _ _ _ h => h) (Or.inl ⟨by rfl, ?_⟩) ?_ ?_
    rotate_left
    · intro w'
      go_simp
      try with_reducible rfl
    rotate_left
    · simp only [Act.put, List.setIfInBounds_toArray, List.set_cons_zero, List.set_cons_succ]
      rfl
    refine pure_ (i := 8) (N := some 20) (v := ?_) (a' := ?_) #[true, true, true, true, true, true, true, true, true, false, false, false, false] rfl rfl (any_of HT_.out (by kernel_rfl)) (fun _ _ _ h => h) (Or.inl ⟨by rfl, ?_⟩) ?_ ?_
    rotate_left
    · intro w'
      go_simp
      try with_reducible rfl
    rotate_left
    · simp only [Act.put, List.setIfInBounds_toArray, List.set_cons_zero, List.set_cons_succ]
      rfl
    refine take_ (i := 9) (N := some 21) (v := ?_) (a' := ?_) #[true, true, true, true, true, true, true, true, true, true, false, false, false] rfl rfl (take_ofW HT_.out HW_.out (by kernel_rfl)) (fun _ _ _ h => h) (Or.inl ⟨by rfl, ?_⟩) hHeld ?_ ?_
    rotate_left
    · rintro w' ⟨s0, s1, s2, s3⟩
      go_simp
      try with_reducible rfl
    rotate_left
    · simp only [Act.put, List.setIfInBounds_toArray, List.set_cons_zero, List.set_cons_succ]
      rfl
    refine one_ (i := 10) (N := some 22) #[true, true, true, true, true, true, true, true, true, true, true, false, false] rfl rfl (one_of HT_.out (by kernel_rfl)) (by decide) (fun K hK => ?_)
    rw [if_pos (by rfl)]
    go_simp
    obtain ⟨W2, hW2⟩ : ∃ W2, (W1.alloc (.cells #[.int .i64 f0, .string f1, .int .i64 f2, .int .i64 1] 42 (0, 0))).drew = W2 := ⟨_, rfl⟩
    rw [hW2]
    have hb2 : Below W1.heap.size W1 W2 := by rw [← hW2]; exact ((Below.refl _ W1).alloc (Nat.le_refl _) _).drew
    have hn2 : W2.heap[W1.heap.size]? = some (.cells #[.int .i64 f0, .string f1, .int .i64 f2, .int .i64 1] 42 (0, 0)) := by rw [← hW2]; exact heap_alloc_new W1 _
    have hs2 : W2.heap.size = W1.heap.size + 1 := by rw [← hW2]; simp
    clear hW2
    have hx2 := (hb2.block _ (by have := HS.out; omega)).trans HX.out
    have d0 : W2.cell? ⟨w.heap.size, 0, none⟩ = some (.int .i64 f0) := by rw [cell_of_row W2 _ 0 _ _ _ hx2]; rfl
    have d1 : W2.cell? ⟨w.heap.size, 1, none⟩ = some (.string f1) := by rw [cell_of_row W2 _ 1 _ _ _ hx2]; rfl
    have d2 : W2.cell? ⟨w.heap.size, 2, none⟩ = some (.int .i64 f2) := by rw [cell_of_row W2 _ 2 _ _ _ hx2]; rfl
    have d3 : W2.cell? ⟨w.heap.size, 3, none⟩ = some (.int .i64 1) := by rw [cell_of_row W2 _ 3 _ _ _ hx2]; rfl
    refine hK.out _ _ ⟨d0, d1, d2, d3⟩ (fun hHeld => ?_)
    clear hK K
    obtain ⟨v', W3, hap, hrow3, hb3⟩ := append_row (x := ⟨f0, f1, f2, 1⟩) (Kd.C_below HC.out hb2) (fun h => (HNIL.out h).1) (by omega) ⟨W1.heap.size, 0, none⟩ (by
      intro j u hj
      have e : (⟨W1.heap.size, 0, none⟩ : Addr).add j = ⟨W1.heap.size, j, none⟩ := by simp [Addr.add]; omega
      rw [e, cell_of_row W2 _ _ _ _ _ hn2]
      simpa using hj)
    have HROW := Aside0.mk hrow3
    clear hrow3
    refine one_ (i := 11) (N := some 23) #[true, true, true, true, true, true, true, true, true, true, true, true, false] rfl rfl (one_of HT_.out (by kernel_rfl)) (by decide) (fun K hK => ?_)
    refine append_one rfl (by rfl) rfl rfl hap rfl ?_
    have hx3 := (hb3.block _ (by have := (Array.getElem?_eq_some_iff.1 hx2).1; omega)).trans hx2
    have e0 : W3.cell? ⟨w.heap.size, 0, none⟩ = some (.int .i64 f0) := by rw [cell_of_row W3 _ 0 _ _ _ hx3]; rfl
    have e1 : W3.cell? ⟨w.heap.size, 1, none⟩ = some (.string f1) := by rw [cell_of_row W3 _ 1 _ _ _ hx3]; rfl
    have e2 : W3.cell? ⟨w.heap.size, 2, none⟩ = some (.int .i64 f2) := by rw [cell_of_row W3 _ 2 _ _ _ hx3]; rfl
    have e3 : W3.cell? ⟨w.heap.size, 3, none⟩ = some (.int .i64 1) := by rw [cell_of_row W3 _ 3 _ _ _ hx3]; rfl
    refine hK.out _ _ ⟨e0, e1, e2, e3⟩ (fun hHeld => ?_)
    clear hK K
    have hown3 := HOWN.out.kept (below_grown (hb2.trans (hb3.mono hb2.size)) none) (by simp)
    obtain ⟨W4, hupd, hown4, hg4⟩ := hown3.update kBook Try.underlying59 (by have := HN.out; simp only [maxLen]; omega) (val := v') (d := .held v') (ps := []) hkey rfl
    refine one_ (i := 12) (N := none) #[true, true, true, true, true, true, true, true, true, true, true, true, true] rfl rfl (one_of HT_.out (by kernel_rfl)) (by decide) (fun K hK => ?_)
    refine update_one rfl (by rfl) rfl rfl rfl hupd rfl ?_
    have hx4 := (hg4.block _ (by have := (Array.getElem?_eq_some_iff.1 hx3).1; omega) (by have := HOWN.out.lt; have := hblt; intro e; injection e with e; omega)).trans hx3
    have k0 : W4.cell? ⟨w.heap.size, 0, none⟩ = some (.int .i64 f0) := by rw [cell_of_row W4 _ 0 _ _ _ hx4]; rfl
    have k1 : W4.cell? ⟨w.heap.size, 1, none⟩ = some (.string f1) := by rw [cell_of_row W4 _ 1 _ _ _ hx4]; rfl
    have k2 : W4.cell? ⟨w.heap.size, 2, none⟩ = some (.int .i64 f2) := by rw [cell_of_row W4 _ 2 _ _ _ hx4]; rfl
    have k3 : W4.cell? ⟨w.heap.size, 3, none⟩ = some (.int .i64 1) := by rw [cell_of_row W4 _ 3 _ _ _ hx4]; rfl
    refine hK.out _ _ ⟨k0, k1, k2, k3⟩ (fun hHeld => ?_)
    clear hK K
    refine done_ (done_of HT_.out (by kernel_rfl)) ?_
    have hb13 : Below W1.heap.size W1 W3 := hb2.trans (hb3.mono hb2.size)
    have hmap3 : W3.heap[b]? = some (.map es clock) := (hb13.block b (by have := HS.out; omega)).trans HM.out
    have hD3 : BookD W3 D xs := fun key => ⟨(HD.out key).1, by
      obtain ⟨v, e, hr⟩ := (HD.out key).2
      exact ⟨v, e, hr.below hb13⟩⟩
    have hrow : Row W3 v' (own f1 xs ++ [⟨f0, f1, f2, 1⟩]) := by rw [HO.out]; exact HROW.out
    refine ⟨rfl, _, results_none _ _, rfl, ⟨_, n + 1, hown4, by have := HN.out; simp; omega, Book.put (n := n) (r := ⟨f0, f1, f2, 1⟩) hmap3 hD3 rfl HOWN.out.isMap hrow hg4⟩, ?_⟩
    exact (Keeps.of_below (HB.out.trans (hb13.mono HB.out.size)) _).trans' (Keeps.mk (ex := fun k => k = b) hg4.os hg4.tape hg4.output hg4.size (fun k hk hn => hg4.block k hk (fun e => hn (by injection e)))) (fun i hi => .inl hi)
end Go.Proofs.Ytmlpahjmebfgbaa.Own
end
section
namespace Go.Proofs.Ytmlpahjmebfgbaa.Own
open Go.RowKit Go.Proofs.YtmlpahjmebfgbaaW.PrintWords Go.Proofs.YtmlpahjmebfgbaaW.PrintLast Go.Proofs.YtmlpahjmebfgbaaW.PrintMore Go.Proofs.Ytmlpahjmebfgbaa.PEx
open Go.Maps (Keyed)
set_option linter.unusedVariables false
set_option linter.unusedSimpArgs false

theorem take_rd (l : List S42) (j : Nat) (h : j < l.length) : l.take (j + 1) = l.take j ++ [rd_T42 l (j : Int)] := by
  rw [List.take_add_one]
  congr 1
  unfold rd_T42
  rw [Int.toNat_natCast, List.getD_eq_getElem?_getD, List.getElem?_eq_getElem h]
  rfl

set_option maxRecDepth 100000 in
set_option maxHeartbeats 4000000 in
theorem read_bad (k : Nat) (a0_0 a0_1 a0_2 a0_3 a0_4 a0_5 a0_6 a0_7 a0_8 a0_9 : Int) (A : Option Addr) (c : Nat) (l : List S42) (err : Int) (w : World) (hr : Kd.C k42 w A l.length l) (hc : l.length ≤ c)
    (h : exact_right.f k a0_0 a0_1 a0_2 a0_3 a0_4 a0_5 a0_6 a0_7 a0_8 a0_9 l = some err) (he : err ≠ 0) :
    Calls Try.prog 32 #[.agg #[.int .i64 a0_0, .int .i64 a0_1, .int .i64 a0_2, .int .i64 a0_3, .int .i64 a0_4, .int .i64 a0_5, .int .i64 a0_6, .int .i64 a0_7, .int .i64 a0_8, .int .i64 a0_9], .slice A l.length c] w fun e w' =>
      e = .returned (.tuple #[.map none, .int .i64 err]) ∧ Below w.heap.size w w' := by
  refine calls_of_wp Try.func32 rfl ?_
  simp only [Try.ntmps32, List.size_toArray, List.length_cons, List.length_nil, Nat.reduceAdd, Nat.reduceSub, Array.replicate_succ, Array.replicate_zero, List.push_toArray, List.append_toArray, List.nil_append, List.cons_append]
  go_wp2_with fail
  refine (exact_right.calls k a0_0 a0_1 a0_2 a0_3 a0_4 a0_5 a0_6 a0_7 a0_8 a0_9 A c l err _ (Kd.C_alloc hr _) hc h).mono ?_
  rintro e w1 ⟨rfl, hb⟩
  go_wp2_with fail
  refine ⟨rfl, _, results_tmp2 rfl _ _ _, rfl, ((Below.refl _ w).alloc (Nat.le_refl _) _).trans (hb.mono (by simp))⟩

set_option maxRecDepth 100000 in
set_option maxHeartbeats 4000000 in
theorem read_ok (k : Nat) (a0_0 a0_1 a0_2 a0_3 a0_4 a0_5 a0_6 a0_7 a0_8 a0_9 : Int) (A : Option Addr) (c : Nat) (l : List S42) (w : World) (hr : Kd.C k42 w A l.length l) (hc : l.length ≤ c)
    (h : exact_right.f k a0_0 a0_1 a0_2 a0_3 a0_4 a0_5 a0_6 a0_7 a0_8 a0_9 l = some 0) (hl : l.length ≤ 10000) (hs : ∀ r ∈ l, r.f1.size ≤ maxLen) :
    Calls Try.prog 32 #[.agg #[.int .i64 a0_0, .int .i64 a0_1, .int .i64 a0_2, .int .i64 a0_3, .int .i64 a0_4, .int .i64 a0_5, .int .i64 a0_6, .int .i64 a0_7, .int .i64 a0_8, .int .i64 a0_9], .slice A l.length c] w fun e w' =>
      ∃ b, e = .returned (.tuple #[.map (some b), .int .i64 0]) ∧ w.heap.size ≤ b ∧ Book w' b l ∧ Below w.heap.size w w' := by
  refine calls_of_wp Try.func32 rfl ?_
  simp only [Try.ntmps32, List.size_toArray, List.length_cons, List.length_nil, Nat.reduceAdd, Nat.reduceSub, Array.replicate_succ, Array.replicate_zero, List.push_toArray, List.append_toArray, List.nil_append, List.cons_append]
  go_wp2_with fail
  refine (exact_right.calls k a0_0 a0_1 a0_2 a0_3 a0_4 a0_5 a0_6 a0_7 a0_8 a0_9 A c l 0 _ (Kd.C_alloc hr _) hc h).mono ?_
  rintro e w1 ⟨rfl, hb⟩
  have hb1 : Below w.heap.size w w1 := ((Below.refl _ w).alloc (Nat.le_refl _) _).trans (hb.mono (by simp))
  have HB := Aside0.mk hb1
  clear hb hb1 h
  have HM := Aside0.mk (book_made w1)
  have HR := Aside0.mk hr
  clear hr
  have hmk : (Instr.makeMap 59 none).run Try.prog w1 = .ok (.map (some w1.heap.size)) (w1.alloc (.map #[] 0)) := by
    exact run_makeMap 59 w1
  go_wp2_with fail
  obtain ⟨W0, hW0⟩ : ∃ W0, w1.alloc (.map #[] 0) = W0 := ⟨_, rfl⟩
  rw [hW0] at HM ⊢
  have hb0 : Below w.heap.size w W0 := by rw [← hW0]; exact HB.out.alloc HB.out.size _
  have hbs := HB.out.size
  clear HB hmk hW0
  have HB0 := Aside0.mk hb0
  clear hb0
  go_loopw [19] (fun i wr => ∃ j : Nat, j ≤ l.length ∧ i = .int .i64 (j : Int) ∧ Aside0 (Book wr w1.heap.size (l.take j) ∧ Below w.heap.size w wr)) (fun i _ => l.length - (intOf i).toNat)
  case atStart => exact ⟨0, by omega, rfl, ⟨by simpa using HM.out, HB0.out⟩⟩
  case round =>
    obtain ⟨j, hj, rfl, BS⟩ := hrel
    clear HM HB0
    by_cases hlt : j < l.length
    · obtain ⟨ad, eA, c0, c1, c2, c3⟩ := at_T42 HR.out (j : Int) (by omega) (by omega)
      subst eA
      replace c0 := (BS.out.2.cell (World.block_lt_of_cell? w _ c0)).trans c0
      replace c1 := (BS.out.2.cell (World.block_lt_of_cell? w _ c1)).trans c1
      replace c2 := (BS.out.2.cell (World.block_lt_of_cell? w _ c2)).trans c2
      replace c3 := (BS.out.2.cell (World.block_lt_of_cell? w _ c3)).trans c3
      simp only [Int.toNat_natCast] at c0 c1 c2 c3
      have i0 : (0 : Int) ≤ (j : Int) := by omega
      have i1 : (j : Int) < (l.length : Int) := by omega
      have htk := take_rd l j hlt
      have HTK := Aside0.mk htk
      clear htk
      have hsz : (rd_T42 l (j : Int)).f1.size ≤ maxLen := hs _ (by
        unfold rd_T42
        rw [Int.toNat_natCast, List.getD_eq_getElem?_getD, List.getElem?_eq_getElem hlt]
        exact List.getElem_mem hlt)
      generalize rd_T42 l (j : Int) = x at c0 c1 c2 c3 HTK hsz
      go_wp2_with fail
      have hst : wr.heap.size < (wr.alloc (.cells #[.int .i64 x.f0, .string x.f1, .int .i64 x.f2, .int .i64 x.f3] 42 (0, 0))).heap.size := by simp
      refine (put_fn w1.heap.size (l.take j) x _ (BS.out.1.below ((Below.refl _ _).alloc (Nat.le_refl _) _)) (by simp; omega) hsz).mono ?_
      rintro e W2 ⟨rfl, hbk, hk2⟩
      have HN : Aside0 (Book W2 w1.heap.size (l.take (j + 1)) ∧ Below w.heap.size w W2) := ⟨by rw [HTK.out]; exact hbk, BS.out.2.trans (((Keeps.of_below ((Below.refl _ wr).alloc (Nat.le_refl _) _) (fun k => k = w1.heap.size)).trans hk2).below BS.out.2.size (fun i hi => by omega))⟩
      clear hbk hk2 BS
      go_wp2_with fail
      go_roundw
      case rel => exact ⟨j + 1, by omega, by go_num, HN⟩
      case measure => simp [intOf]; omega
    · obtain rfl : j = l.length := by omega
      go_wp2_with fail
      refine ⟨rfl, _, results_tmp2 rfl _ _ _, w1.heap.size, rfl, hbs, ?_, BS.out.2⟩
      have := BS.out.1
      rwa [List.take_length] at this
end Go.Proofs.Ytmlpahjmebfgbaa.Own
end
section
namespace Go.Proofs.Ytmlpahjmebfgbaa.Own
open Go.RowKit Go.Proofs.YtmlpahjmebfgbaaW.PrintWords Go.Proofs.YtmlpahjmebfgbaaW.PrintLast Go.Proofs.YtmlpahjmebfgbaaW.PrintMore Go.Proofs.Ytmlpahjmebfgbaa.PEx
set_option linter.unusedVariables false
set_option linter.unusedSimpArgs false

/-- Why a record may not be. -/
def recE (r : S42) : Int :=
  if 0 ≤ r.f0 ∧ r.f0 ≤ 1099511627776 then (if 1 ≤ r.f1.size ∧ r.f1.size ≤ 64 then (if 1 ≤ r.f2 ∧ r.f2 ≤ 1048576 then (if 0 ≤ r.f3 ∧ r.f3 ≤ 2 then 0 else 63) else 62) else 61) else 60
theorem recE_zero {r : S42} (h : recE r = 0) : 0 ≤ r.f0 ∧ r.f0 ≤ 1099511627776 ∧ 1 ≤ r.f1.size ∧ r.f1.size ≤ 64 ∧ 1 ≤ r.f2 ∧ r.f2 ≤ 1048576 ∧ 0 ≤ r.f3 ∧ r.f3 ≤ 2 := by
  unfold recE at h
  split at h
  · split at h
    · split at h
      · split at h
        · omega
        · omega
      · omega
    · omega
  · omega
theorem mayTick_eq (x : Int) : record_mayTick.f x = some (decide (0 ≤ x ∧ x ≤ 1099511627776)) := by
  unfold record_mayTick.f
  by_cases h : 0 ≤ x <;> simp [h]
theorem mayKey_eq (x : Int) : record_mayKey.f x = some (decide (1 ≤ x ∧ x ≤ 64)) := by
  unfold record_mayKey.f
  by_cases h : 1 ≤ x <;> simp [h]
theorem mayCost_eq (x : Int) : record_mayCost.f x = some (decide (1 ≤ x ∧ x ≤ 1048576)) := by
  unfold record_mayCost.f
  by_cases h : 1 ≤ x <;> simp [h]
theorem mayVerdict_eq (x : Int) : record_mayVerdict.f x = some (decide (0 ≤ x ∧ x ≤ 2)) := by
  unfold record_mayVerdict.f
  by_cases h : 0 ≤ x <;> simp [h]
theorem record_Right_eq (f0 : Int) (f1 : ByteArray) (f2 f3 : Int) : record_Right.f f0 f1 f2 f3 = some (recE ⟨f0, f1, f2, f3⟩) := by
  unfold record_Right.f recE
  simp only [mayTick_eq, mayKey_eq, mayCost_eq, mayVerdict_eq, Option.bind_some, decide_eq_true_eq]
  have e : (1 ≤ (f1.size : Int) ∧ (f1.size : Int) ≤ 64) ↔ (1 ≤ f1.size ∧ f1.size ≤ 64) := by omega
  simp only [e]
  split
  · split
    · split
      · split <;> rfl
      · rfl
    · rfl
  · rfl

/-- Why records may not be, one behind another. -/
def wrongX : Int → List S42 → Int
  | _, [] => 0
  | last, r :: rs => if recE r = 0 then (if r.f0 < last then 60 else wrongX r.f0 rs) else recE r
/-- Why policy and list may not be. -/
def rightX (kind cap num den width count keys slots every seg : Int) (l : List S42) : Int :=
  if polE kind cap num den width count keys slots every seg = 0 then (if 10000 < l.length then 2 else wrongX 0 l) else polE kind cap num den width count keys slots every seg

theorem wrap64_small {x : Int} (h0 : -9223372036854775808 ≤ x) (h1 : x ≤ 9223372036854775807) : wrap64 x = x := by
  unfold wrap64
  omega

theorem drop_rd (l : List S42) (j : Nat) (h : j < l.length) : l.drop j = rd_T42 l (j : Int) :: l.drop (j + 1) := by
  rw [List.drop_eq_getElem_cons h]
  congr 1
  unfold rd_T42
  rw [Int.toNat_natCast, List.getD_eq_getElem?_getD, List.getElem?_eq_getElem h]
  rfl

theorem right_l0_eq (l : List S42) (hl : l.length ≤ 10000) : ∀ (n j : Nat) (last : Int), l.length - j < n → j ≤ l.length → exact_right.l0 n last l (l.length : Int) (j : Int) = some (wrongX last (l.drop j)) := by
  intro n
  induction n with
  | zero => intro j last h; omega
  | succ n ih =>
    intro j last h hj
    unfold exact_right.l0
    by_cases hlt : j < l.length
    · rw [if_pos (by omega), if_pos (by omega), if_pos (by omega), record_Right_eq, drop_rd l j hlt]
      simp only [Option.bind_some, wrongX]
      rw [wrap64_small (by omega) (by omega), show ((j : Int) + 1) = ((j + 1 : Nat) : Int) from by omega, ih (j + 1) _ (by omega) (by omega)]
      by_cases h1 : recE (rd_T42 l (j : Int)) = 0
      · simp only [h1, if_true]
        split <;> rfl
      · simp only [h1, if_false]
    · rw [if_neg (by omega), List.drop_of_length_le (by omega)]
      rfl

theorem right_eq (a0_0 a0_1 a0_2 a0_3 a0_4 a0_5 a0_6 a0_7 a0_8 a0_9 : Int) (l : List S42) : exact_right.f (l.length + 1) a0_0 a0_1 a0_2 a0_3 a0_4 a0_5 a0_6 a0_7 a0_8 a0_9 l = some (rightX a0_0 a0_1 a0_2 a0_3 a0_4 a0_5 a0_6 a0_7 a0_8 a0_9 l) := by
  unfold exact_right.f policy_Right.f rightX
  simp only [Option.bind_some]
  split
  · by_cases h : 10000 < l.length
    · rw [if_pos (by omega), if_pos h]
    · rw [if_neg (by omega), if_neg h]
      have := right_l0_eq l (by omega) (l.length + 1) 0 0 (by omega) (by omega)
      simpa using this
  · rfl

/-- Policy and list may be. -/
structure Good (kind cap num den width count keys slots every seg : Int) (l : List S42) : Prop where
  pol : polB kind cap num den width count keys slots every seg = true
  len : l.length ≤ 10000
  recs : ∀ r ∈ l, recE r = 0
  sorted : l.Pairwise (fun a b => a.f0 ≤ b.f0)
theorem wrong_zero : ∀ (l : List S42) (last : Int), wrongX last l = 0 ↔ (∀ r ∈ l, recE r = 0) ∧ (∀ r ∈ l, last ≤ r.f0) ∧ l.Pairwise (fun a b => a.f0 ≤ b.f0)
  | [], last => by simp [wrongX]
  | r :: rs, last => by
    unfold wrongX
    have ih := wrong_zero rs r.f0
    by_cases h1 : recE r = 0
    · rw [if_pos h1]
      by_cases h2 : r.f0 < last
      · rw [if_pos h2]
        constructor
        · intro h; omega
        · intro h; have := h.2.1 r (by simp); omega
      · rw [if_neg h2, ih]
        constructor
        · rintro ⟨g1, g2, g3⟩
          refine ⟨fun x hx => ?_, fun x hx => ?_, List.pairwise_cons.2 ⟨g2, g3⟩⟩
          · rcases List.mem_cons.1 hx with rfl | hx
            · exact h1
            · exact g1 x hx
          · rcases List.mem_cons.1 hx with rfl | hx
            · omega
            · have := g2 x hx; omega
        · rintro ⟨g1, g2, g3⟩
          exact ⟨fun x hx => g1 x (by simp [hx]), (List.pairwise_cons.1 g3).1, (List.pairwise_cons.1 g3).2⟩
    · rw [if_neg h1]
      constructor
      · intro h; exact absurd h h1
      · rintro ⟨g1, _⟩; exact absurd (g1 r (by simp)) h1
theorem right_good {kind cap num den width count keys slots every seg : Int} {l : List S42} : rightX kind cap num den width count keys slots every seg l = 0 ↔ Good kind cap num den width count keys slots every seg l := by
  unfold rightX
  constructor
  · intro h
    split at h
    · rename_i hp
      split at h
      · omega
      · obtain ⟨h1, h2, h3⟩ := (wrong_zero l 0).1 h
        refine ⟨?_, by omega, h1, h3⟩
        by_cases hb : polB kind cap num den width count keys slots every seg = true
        · exact hb
        · rw [polE_bad hb] at hp; omega
    · rename_i hp; exact absurd h hp
  · rintro ⟨h1, h2, h3, h4⟩
    rw [if_pos (polE_ok h1), if_neg (by omega)]
    exact (wrong_zero l 0).2 ⟨h3, fun r hr => (recE_zero (h3 r hr)).1, h4⟩

def okP (kind num den width count : Int) : Prop := (kind = 1 ∧ 1 ≤ num ∧ num ≤ 65536 ∧ 1 ≤ den ∧ den ≤ 65536) ∨ (kind = 2 ∧ 1 ≤ width ∧ width ≤ 1048576 ∧ 1 ≤ count ∧ count ≤ 32)
set_option maxRecDepth 10000 in
theorem pol_ok {kind cap num den width count keys slots every seg : Int} (h : polB kind cap num den width count keys slots every seg = true) : okP kind num den width count ∧ 1 ≤ cap ∧ cap ≤ 1048576 ∧ 1 ≤ keys ∧ keys ≤ 1000 := by
  simp only [polB, decide_eq_true_eq] at h
  unfold okP
  omega
theorem good_okR {kind cap num den width count keys slots every seg : Int} {l : List S42} (h : Good kind cap num den width count keys slots every seg l) : ∀ r ∈ l, okR r := fun r hr => by
  have := recE_zero (h.recs r hr)
  obtain ⟨h1, h2, h3, h4, h5, h6, h7, h8⟩ := this
  exact ⟨h1, h2, h5, h6⟩

theorem owed_any (kind cap num den width count keys slots every seg : Int) (tick : Int) (A : Option Addr) (c : Nat) (l : List S42) (w : World) (hr : Kd.C k42 w A l.length l) (hp : okP kind num den width count)
    (hok : ∀ r ∈ l, okR r) (ht0 : 0 ≤ tick) (ht : tick ≤ 1099511627776) (hlen : l.length ≤ 10000) :
    Calls Try.prog 34 #[.slice A l.length c, .agg #[.int .i64 kind, .int .i64 cap, .int .i64 num, .int .i64 den, .int .i64 width, .int .i64 count, .int .i64 keys, .int .i64 slots, .int .i64 every, .int .i64 seg], .int .i64 tick] w fun e w' =>
      e = .returned (.int .i64 (owedX kind num den width count tick l)) ∧ Below w.heap.size w w' := by
  rcases hp with ⟨rfl, h1, h2, h3, h4⟩ | ⟨rfl, h1, h2, h3, h4⟩
  · exact owed_bucket cap num den width count keys slots every seg tick A c l w hr h1 h2 h3 h4 hok ht0 ht hlen
  · exact owed_window cap num den width count keys slots every seg tick A c l w hr h1 h2 h3 h4 hok ht0 ht hlen


set_option maxRecDepth 100000 in
theorem Book.look {w : World} {b : Nat} {xs : List S42} (h : Book w b xs) {key : ByteArray} (hk : key.size ≤ maxLen) :
    ∃ A c, (Instr.lookup 59 (.map (some b)) (.string key) false).run Try.prog w = .ok (.slice A (own key xs).length c) w ∧ (own key xs).length ≤ c ∧ Kd.C k42 w A (own key xs).length (own key xs) := by
  obtain ⟨D, n, hown, hn, hD⟩ := h
  obtain ⟨v0, hv0, A, c, e0, hc, hnil, hC, _⟩ := (hD key).2
  subst e0
  have hkey := WideMaps.keyOf_string_mk (P := Try.prog) Try.underlying9 hk
  obtain ⟨vl, ps, hlook, hvl⟩ := hown.lookup kBook Try.underlying59 (zero63 w) (z := .slice none 0 0) (zd := .held (.slice none 0 0)) (zp := []) rfl hkey
  have hvl' : vl = .slice A (own key xs).length c := by
    have h1 : D.atKey (lk key) (.held (.slice none 0 0)) = .held vl := by
      have := congrArg Prod.fst (Option.some.inj hvl); exact this.symm
    rw [hv0] at h1; injection h1 with h1; exact h1.symm
  subst hvl'
  exact ⟨A, c, hlook, hc, hC⟩
end Go.Proofs.Ytmlpahjmebfgbaa.Own
end
section
namespace Go.Proofs.Ytmlpahjmebfgbaa.Own
open Go.RowKit Go.Proofs.YtmlpahjmebfgbaaW.PrintWords Go.Proofs.YtmlpahjmebfgbaaW.PrintLast Go.Proofs.YtmlpahjmebfgbaaW.PrintMore Go.Proofs.Ytmlpahjmebfgbaa.PEx
set_option linter.unusedVariables false
set_option linter.unusedSimpArgs false

abbrev tickB (n : Int) : Bool := decide (0 ≤ n ∧ n ≤ 1099511627776)
theorem tick_fn (n : Int) (w : World) : Calls Try.prog 33 #[.int .i64 n] w fun e w' => e = .returned (.bool (tickB n)) ∧ w' = w := by
  by_cases h : 0 ≤ n
  · refine calls_of_wp Try.func33 rfl ?_
    simp only [Try.ntmps33, List.size_toArray, List.length_cons, List.length_nil, Nat.reduceAdd, Nat.reduceSub, Array.replicate_succ, Array.replicate_zero, List.push_toArray, List.append_toArray, List.nil_append, List.cons_append]
    have e : tickB n = decide (n ≤ 1099511627776) := by simp [tickB, h]
    go_wp2
    go_ret
    exact ⟨by simp [e], rfl⟩
  · have e : tickB n = false := by simp [tickB, h]
    refine calls_of_wp Try.func33 rfl ?_
    simp only [Try.ntmps33, List.size_toArray, List.length_cons, List.length_nil, Nat.reduceAdd, Nat.reduceSub, Array.replicate_succ, Array.replicate_zero, List.push_toArray, List.append_toArray, List.nil_append, List.cons_append]
    rw [e]
    clear e
    go_wp2
    go_ret
    exact ⟨rfl, rfl⟩

theorem info23 : (Try.prog.info? 23).map (·.size) = some 10 := by kernel_rfl

/-- What a key owes at a tick, by a list. -/
def OwedX (kind cap num den width count keys slots every seg : Int) (l : List S42) (key : ByteArray) (at_ : Int) : Int :=
  if rightX kind cap num den width count keys slots every seg l = 0 then (if tickB at_ = true then owedX kind num den width count at_ (own key l) else 0) else 0

set_option maxRecDepth 100000 in
set_option maxHeartbeats 4000000 in
theorem Owed_fn (a0_0 a0_1 a0_2 a0_3 a0_4 a0_5 a0_6 a0_7 a0_8 a0_9 : Int) (A : Option Addr) (c : Nat) (l : List S42) (key : ByteArray) (at_ : Int) (w : World) (hr : Kd.C k42 w A l.length l) (hc : l.length ≤ c) (hk : key.size ≤ maxLen) :
    Calls Try.prog 12 #[.agg #[.int .i64 a0_0, .int .i64 a0_1, .int .i64 a0_2, .int .i64 a0_3, .int .i64 a0_4, .int .i64 a0_5, .int .i64 a0_6, .int .i64 a0_7, .int .i64 a0_8, .int .i64 a0_9], .slice A l.length c, .string key, .int .i64 at_] w fun e w' =>
      e = .returned (.int .i64 (OwedX a0_0 a0_1 a0_2 a0_3 a0_4 a0_5 a0_6 a0_7 a0_8 a0_9 l key at_)) ∧ Below w.heap.size w w' := by
  have hright := right_eq a0_0 a0_1 a0_2 a0_3 a0_4 a0_5 a0_6 a0_7 a0_8 a0_9 l
  by_cases hz : rightX a0_0 a0_1 a0_2 a0_3 a0_4 a0_5 a0_6 a0_7 a0_8 a0_9 l = 0
  · rw [hz] at hright
    have hg := right_good.1 hz
    have hbs : ∀ r ∈ l, r.f1.size ≤ maxLen := fun r hr => by
      obtain ⟨_, _, _, h, _⟩ := recE_zero (hg.recs r hr)
      simp only [maxLen]; omega
    by_cases ht : tickB at_ = true
    · have hout : OwedX a0_0 a0_1 a0_2 a0_3 a0_4 a0_5 a0_6 a0_7 a0_8 a0_9 l key at_ = owedX a0_0 a0_2 a0_3 a0_4 a0_5 at_ (own key l) := by rw [OwedX, if_pos hz, if_pos ht]
      rw [hout]
      clear hout
      refine calls_of_wp Try.func12 rfl ?_
      simp only [Try.ntmps12, List.size_toArray, List.length_cons, List.length_nil, Nat.reduceAdd, Nat.reduceSub, Array.replicate_succ, Array.replicate_zero, List.push_toArray, List.append_toArray, List.nil_append, List.cons_append]
      go_wp2_with fail
      refine (read_ok (l.length + 1) a0_0 a0_1 a0_2 a0_3 a0_4 a0_5 a0_6 a0_7 a0_8 a0_9 A c l _ (Kd.C_alloc hr _) hc hright hg.len hbs).mono ?_
      rintro e w1 ⟨b, rfl, hb, hbk, hbw⟩
      have g0 := (hbw.block w.heap.size (by simp)).trans (heap_alloc_new w _)
      have hb1 : Below w.heap.size w w1 := ((Below.refl _ w).alloc (Nat.le_refl _) _).trans (hbw.mono (by simp))
      clear hbw hright
      go_wp2_with fail
      refine (tick_fn at_ _).mono ?_
      rintro e w2 ⟨rfl, rfl⟩
      rw [ht]
      obtain ⟨Ao, co, hlook, hco, hCo⟩ := hbk.look hk
      have hol := own_length key l
      have hokr := good_okR hg
      have hown : ∀ r ∈ own key l, okR r := fun r h => hokr r (own_mem h).1
      have hpol := (pol_ok hg.pol).1
      have htt : 0 ≤ at_ ∧ at_ ≤ 1099511627776 := of_decide_eq_true ht
      have hll := hg.len
      clear hbk hg hokr hbs ht hz hr
      go_wp2_with (first | ((with_reducible refine gload 23 rfl ?_); refine wpList_load_blk rfl 23 _ rfl w.heap.size _ 23 _ rfl g0 _ Try.underlying23 rfl info23 ?_) | fail)
      refine (owed_any a0_0 a0_1 a0_2 a0_3 a0_4 a0_5 a0_6 a0_7 a0_8 a0_9 at_ Ao co (own key l) _ hCo hpol hown htt.1 htt.2 (by omega)).mono ?_
      rintro e w3 ⟨rfl, hb3⟩
      have hend := hb1.trans (hb3.mono hb1.size)
      clear hb1 hb3 hlook hCo hown
      go_wp2_with fail
      go_ret
      exact ⟨rfl, hend⟩
    · have hout : OwedX a0_0 a0_1 a0_2 a0_3 a0_4 a0_5 a0_6 a0_7 a0_8 a0_9 l key at_ = 0 := by rw [OwedX, if_pos hz, if_neg ht]
      have hf : tickB at_ = false := by simpa using ht
      rw [hout]
      clear hout
      refine calls_of_wp Try.func12 rfl ?_
      simp only [Try.ntmps12, List.size_toArray, List.length_cons, List.length_nil, Nat.reduceAdd, Nat.reduceSub, Array.replicate_succ, Array.replicate_zero, List.push_toArray, List.append_toArray, List.nil_append, List.cons_append]
      go_wp2_with fail
      refine (read_ok (l.length + 1) a0_0 a0_1 a0_2 a0_3 a0_4 a0_5 a0_6 a0_7 a0_8 a0_9 A c l _ (Kd.C_alloc hr _) hc hright hg.len hbs).mono ?_
      rintro e w1 ⟨b, rfl, hb, hbk, hbw⟩
      have hb1 : Below w.heap.size w w1 := ((Below.refl _ w).alloc (Nat.le_refl _) _).trans (hbw.mono (by simp))
      clear hbw hright
      go_wp2_with fail
      refine (tick_fn at_ _).mono ?_
      rintro e w2 ⟨rfl, rfl⟩
      rw [hf]
      clear hbk hg hbs ht hz hr
      go_wp2_with fail
      go_ret
      exact ⟨rfl, hb1⟩
  · have hout : OwedX a0_0 a0_1 a0_2 a0_3 a0_4 a0_5 a0_6 a0_7 a0_8 a0_9 l key at_ = 0 := by rw [OwedX, if_neg hz]
    rw [hout]
    clear hout
    generalize rightX a0_0 a0_1 a0_2 a0_3 a0_4 a0_5 a0_6 a0_7 a0_8 a0_9 l = er at hright hz
    refine calls_of_wp Try.func12 rfl ?_
    simp only [Try.ntmps12, List.size_toArray, List.length_cons, List.length_nil, Nat.reduceAdd, Nat.reduceSub, Array.replicate_succ, Array.replicate_zero, List.push_toArray, List.append_toArray, List.nil_append, List.cons_append]
    go_wp2_with fail
    refine (read_bad (l.length + 1) a0_0 a0_1 a0_2 a0_3 a0_4 a0_5 a0_6 a0_7 a0_8 a0_9 A c l er _ (Kd.C_alloc hr _) hc hright hz).mono ?_
    rintro e w1 ⟨rfl, hbw⟩
    have hb1 : Below w.heap.size w w1 := ((Below.refl _ w).alloc (Nat.le_refl _) _).trans (hbw.mono (by simp))
    clear hbw hright hr
    go_wp2_with fail
    go_ret
    exact ⟨rfl, hb1⟩
end Go.Proofs.Ytmlpahjmebfgbaa.Own
end

