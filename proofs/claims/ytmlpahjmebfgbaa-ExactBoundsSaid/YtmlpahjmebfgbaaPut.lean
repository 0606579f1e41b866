/- (exact.book).put: a record more in the book, if it was allowed. -/
import Derived.Test.YtmlpahjmebfgbaaBook
namespace Go.Proofs.Ytmlpahjmebfgbaa.Own
open Go.RowKit Go.Proofs.YtmlpahjmebfgbaaW.PrintWords Go.Proofs.YtmlpahjmebfgbaaW.PrintLast Go.Proofs.YtmlpahjmebfgbaaW.PrintMore Go.Proofs.Ytmlpahjmebfgbaa.PEx
open Go.Maps (Keyed)
set_option linter.unusedVariables false
set_option linter.unusedSimpArgs false
attribute [local go_sem] Oper.semAt_some

def put_T3 : Bool × List (List Nat × List Nat) := (true, [([], []), ([], []), ([1], [1]), ([], []), ([], []), ([4], [4]), ([], []), ([6], [6]), ([3, 5, 7], [3, 5, 7]), ([], []), ([9], [9]), ([8, 10], [8, 10]), ([0, 2, 11, 11, 0, 1, 2, 3, 4, 5, 6, 7, 8, 9, 10, 11], [0, 2, 11])])
def put_B3 : List Nat := [0, 0, 2, 0, 0, 16, 0, 64, 248, 0, 512, 2040, 4095]
theorem put_tab3 : rtab .any (opsOf Try.f44 3) = put_T3 := by kernel_rfl
theorem put_bits3 : waitsOk put_T3.2 put_B3 = true := by kernel_rfl

theorem kBook : Keyed Try.prog 9 := Maps.string_keyed Try.underlying9
theorem zero63 (w : World) : (zeroValue 63).run Try.prog w = .ok (.slice none 0 0) w := by
  have h : (Try.prog.info? 63).map (fun i => i.zero) = some (some (.slice none 0 0)) := by kernel_rfl
  cases e : Try.prog.info? 63 with
  | none => rw [e] at h; cases h
  | some i => rw [e] at h; simp at h; simp [zeroValue, typeInfo, e, h]

theorem results_none (tmps : Array Value) (w : World) : Sem.run Try.prog (results Try.f44 tmps) w = .ok (.tuple #[]) w := by
  simp [results, Try.f44, go_sem]

theorem append_one {P : Program} {ops : Array Oper} {oi : Oper} {N : Option Tmp} {a : Act} {w w' : World} {K : Act → World → Prop} {Q : Exit → Act → World → Prop} {s x : Operand} {t : TypeId} {v1 v2 v' : Value} (hop : oi.op = .call { callee := .builtin .append, args := #[s, x], argTypes := #[t, t] })
    (hw : Region.wanted oi (yielded ops a.tmps) = true) (h1 : a.eval s = v1) (h2 : a.eval x = v2) (hrun : (Builtin.append_ #[t, t] oi.type #[v1, v2]).run P w = .ok v' w') (hN : oi.dst = N) (hK : K (a.put N v') w') : if Region.wanted oi (yielded ops a.tmps) = true then Oper.wp P oi a w K Q else K (a.put N undef) w := by
  rw [if_pos hw]
  subst hN
  unfold Oper.wp execOp
  simp only [hop, resolve, invoke, builtin, Sem.run_bind, Sem.run_pure, Result.andThen_ok, List.map_toArray, List.map_cons, List.map_nil, h1, h2, hrun]
  exact hK
theorem update_one {P : Program} {ops : Array Oper} {oi : Oper} {N : Option Tmp} {a : Act} {w w' : World} {K : Act → World → Prop} {Q : Exit → Act → World → Prop} {m k x : Operand} {t : TypeId} {v1 v2 v3 : Value} (hop : oi.op = .mapUpdate t m k x)
    (hw : Region.wanted oi (yielded ops a.tmps) = true) (h1 : a.eval m = v1) (h2 : a.eval k = v2) (h3 : a.eval x = v3) (hrun : (Instr.mapUpdate t v1 v2 v3).run P w = .ok () w') (hN : oi.dst = N) (hK : K (a.put N undef) w') : if Region.wanted oi (yielded ops a.tmps) = true then Oper.wp P oi a w K Q else K (a.put N undef) w := by
  rw [if_pos hw]
  subst hN
  unfold Oper.wp
  simp [execOp, hop, h1, h2, h3, hrun, Result.andThen]
  exact hK

set_option maxRecDepth 100000 in
set_option maxHeartbeats 4000000 in
theorem put_fn (b : Nat) (xs : List S42) (r : S42) (w : World) (hB : Book w b xs) (hlen : xs.length ≤ 10000) (hk : r.f1.size ≤ maxLen) :
    Calls Try.prog 44 #[.map (some b), .agg #[.int .i64 r.f0, .string r.f1, .int .i64 r.f2, .int .i64 r.f3]] w fun e w' => e = .returned (.tuple #[]) ∧ Book w' b (xs ++ [r]) ∧ Keeps (fun k => k = b) w w' := by
  have hblt := hB.lt
  obtain ⟨f0, f1, f2, f3⟩ := r
  simp only at hk
  by_cases hf : f3 = 1
  case neg =>
    have hout : Book w b (xs ++ [⟨f0, f1, f2, f3⟩]) := by
      obtain ⟨D, n, h1, h2, h3⟩ := hB
      refine ⟨D, n, h1, by simp; omega, fun key => ?_⟩
      rw [own_snoc, if_neg (by simp [hf])]
      exact h3 key
    clear hB
    have HOut := Aside0.mk hout
    clear hout
    refine calls_of_wp Try.func44 rfl ?_
    simp only [Try.ntmps44, List.size_toArray, List.length_cons, List.length_nil, Nat.reduceAdd, Nat.reduceSub, Array.replicate_succ, Array.replicate_zero, List.push_toArray, List.append_toArray, List.nil_append, List.cons_append]
    go_wp2
    refine ⟨rfl, _, results_none _ _, rfl, HOut.out.below ((Below.refl _ w).alloc (Nat.le_refl _) _), (Keeps.refl _ _).alloc _⟩
  case pos =>
    subst hf
    obtain ⟨D, n, hown, hn, hD⟩ := hB
    obtain ⟨es, clock, hmap⟩ := book_map hown
    obtain ⟨v0, hv0, A, c, e0, hc, hnil, hC, hTy⟩ := (hD f1).2
    subst e0
    have hkey := WideMaps.keyOf_string_mk Try.underlying9 hk
    obtain ⟨W1, hW1⟩ : ∃ W1, w.alloc (.cells #[.int .i64 f0, .string f1, .int .i64 f2, .int .i64 1] 42 (0, 0)) = W1 := ⟨_, rfl⟩
    have hown1 : W1.ownsMap Try.prog 9 rawR b n D := by rw [← hW1]; exact hown.alloc _
    obtain ⟨vl, ps, hlook, hvl⟩ := hown1.lookup kBook Try.underlying59 (zero63 W1) (z := .slice none 0 0) (zd := .held (.slice none 0 0)) (zp := []) rfl hkey
    have hvl' : vl = .slice A (own f1 xs).length c := by
      have h1 : D.atKey (lk f1) (.held (.slice none 0 0)) = .held vl := by
        have := congrArg Prod.fst (Option.some.inj hvl); exact this.symm
      rw [hv0] at h1; injection h1 with h1; exact h1.symm
    subst hvl'
    have hb1 : Below w.heap.size w W1 := by rw [← hW1]; exact (Below.refl _ w).alloc (Nat.le_refl _) _
    have hx1 : W1.heap[w.heap.size]? = some (.cells #[.int .i64 f0, .string f1, .int .i64 f2, .int .i64 1] 42 (0, 0)) := by rw [← hW1]; exact heap_alloc_new w _
    have hs1 : W1.heap.size = w.heap.size + 1 := by rw [← hW1]; simp
    have hD1 : BookD W1 D xs := fun key => ⟨(hD key).1, by
      obtain ⟨v, e, hr⟩ := (hD key).2
      exact ⟨v, e, hr.below hb1⟩⟩
    have hmap1 : W1.heap[b]? = some (.map es clock) := (hb1.block b hblt).trans hmap
    have hC1 := Kd.C_below hC hb1
    have hol := own_length f1 xs
    have HOWN := Aside0.mk hown1
    have HD := Aside0.mk hD1
    have HM := Aside0.mk hmap1
    have HC := Aside0.mk hC1
    have HX := Aside0.mk hx1
    have HS := Aside0.mk hs1
    have HB := Aside0.mk hb1
    have HN := Aside0.mk hn
    have c0 : W1.cell? ⟨w.heap.size, 0, none⟩ = some (.int .i64 f0) := by rw [cell_of_row W1 _ 0 _ _ _ hx1]; rfl
    have c1 : W1.cell? ⟨w.heap.size, 1, none⟩ = some (.string f1) := by rw [cell_of_row W1 _ 1 _ _ _ hx1]; rfl
    have c2 : W1.cell? ⟨w.heap.size, 2, none⟩ = some (.int .i64 f2) := by rw [cell_of_row W1 _ 2 _ _ _ hx1]; rfl
    have c3 : W1.cell? ⟨w.heap.size, 3, none⟩ = some (.int .i64 1) := by rw [cell_of_row W1 _ 3 _ _ _ hx1]; rfl
    clear hTy hown hD hmap hC hown1 hD1 hmap1 hC1 hx1 hs1 hvl hv0 hb1
    generalize hO : own f1 xs = l at hol hnil hc hlook HC
    have HO := Aside0.mk hO
    have HNIL := Aside0.mk hnil
    clear hO hn hnil
    refine calls_of_wp Try.func44 rfl ?_
    simp only [Try.ntmps44, List.size_toArray, List.length_cons, List.length_nil, Nat.reduceAdd, Nat.reduceSub, Array.replicate_succ, Array.replicate_zero, List.push_toArray, List.append_toArray, List.nil_append, List.cons_append]
    go_wp2
    clear hW1 hlook

    refine start_ (n := 13) (S := fun w' => w'.cell? ⟨w.heap.size, 0, none⟩ = some (.int .i64 f0) ∧ w'.cell? ⟨w.heap.size, 1, none⟩ = some (.string f1) ∧ w'.cell? ⟨w.heap.size, 2, none⟩ = some (.int .i64 f2) ∧ w'.cell? ⟨w.heap.size, 3, none⟩ = some (.int .i64 1)) (ds := []) #[false, false, false, false, false, false, false, false, false, false, false, false, false] (by kernel_rfl) rfl rfl (⟨c0, c1, c2, c3⟩) (fun hHeld => ?_); refine with_tabW put_tab3 put_bits3 (fun HT_ HW_ => ?_)
    refine pure_ (i := 0) (N := some 12) (v := ?_) (a' := ?_) #[true, false, false, false, false, false, false, false, false, false, false, false, false] rfl rfl (any_of HT_.out (by kernel_rfl)) (fun _ _ _ h => h) (Or.inl ⟨by rfl, ?_⟩) ?_ ?_
    rotate_left
    · intro w'
      go_simp
      try with_reducible rfl
    rotate_left
    · simp only [Act.put, List.setIfInBounds_toArray, List.set_cons_zero, List.set_cons_succ]
      rfl
    refine pure_ (i := 1) (N := some 13) (v := ?_) (a' := ?_) #[true, true, false, false, false, false, false, false, false, false, false, false, false] rfl rfl (any_of HT_.out (by kernel_rfl)) (fun _ _ _ h => h) (Or.inl ⟨by rfl, ?_⟩) ?_ ?_
    rotate_left
    · intro w'
      go_simp
      try with_reducible rfl
    rotate_left
    · simp only [Act.put, List.setIfInBounds_toArray, List.set_cons_zero, List.set_cons_succ]
      rfl
    refine take_ (i := 2) (N := some 14) (v := ?_) (a' := ?_) #[true, true, true, false, false, false, false, false, false, false, false, false, false] rfl rfl (take_ofW HT_.out HW_.out (by kernel_rfl)) (fun _ _ _ h => h) (Or.inl ⟨by rfl, ?_⟩) hHeld ?_ ?_
    rotate_left
    · rintro w' ⟨s0, s1, s2, s3⟩
      go_simp
      try with_reducible rfl
    rotate_left
    · simp only [Act.put, List.setIfInBounds_toArray, List.set_cons_zero, List.set_cons_succ]
      rfl
    refine pure_ (i := 3) (N := some 15) (v := ?_) (a' := ?_) #[true, true, true, true, false, false, false, false, false, false, false, false, false] rfl rfl (any_of HT_.out (by kernel_rfl)) (fun _ _ _ h => h) (Or.inl ⟨by rfl, ?_⟩) ?_ ?_
    rotate_left
    · intro w'
      go_simp
      try with_reducible rfl
    rotate_left
    · simp only [Act.put, List.setIfInBounds_toArray, List.set_cons_zero, List.set_cons_succ]
      rfl
    refine pure_ (i := 4) (N := some 16) (v := ?_) (a' := ?_) #[true, true, true, true, true, false, false, false, false, false, false, false, false] rfl rfl (any_of HT_.out (by kernel_rfl)) (fun _ _ _ h => h) (Or.inl ⟨by rfl, ?_⟩) ?_ ?_
    rotate_left
    · intro w'
      go_simp
      try with_reducible rfl
    rotate_left
    · simp only [Act.put, List.setIfInBounds_toArray, List.set_cons_zero, List.set_cons_succ]
      rfl
    refine pure_ (i := 5) (N := some 17) (v := ?_) (a' := ?_) #[true, true, true, true, true, true, false, false, false, false, false, false, false] rfl rfl (any_of HT_.out (by kernel_rfl)) (fun _ _ _ h => h) (Or.inl ⟨by rfl, ?_⟩) ?_ ?_
    rotate_left
    · intro w'
      go_simp
      try with_reducible rfl
    rotate_left
    · simp only [Act.put, List.setIfInBounds_toArray, List.set_cons_zero, List.set_cons_succ]
      rfl
    refine pure_ (i := 6) (N := some 18) (v := ?_) (a' := ?_) #[true, true, true, true, true, true, true, false, false, false, false, false, false] rfl rfl (any_of HT_.out (by kernel_rfl)) (fun _ _ _ h => h) (Or.inl ⟨by rfl, ?_⟩) ?_ ?_
    rotate_left
    · intro w'
      go_simp
      try with_reducible rfl
    rotate_left
    · simp only [Act.put, List.setIfInBounds_toArray, List.set_cons_zero, List.set_cons_succ]
      rfl
    refine pure_ (i := 7) (N := some 19) (v := ?_) (a' := ?_) #[true, true, true, true, true, true, true, true, false, false, false, false, false] rfl rfl (any_of HT_.out (by kernel_rfl)) (fun _ _ _ h => h) (Or.inl ⟨by rfl, ?_⟩) ?_ ?_
    rotate_left
    · intro w'
      go_simp
      try with_reducible rfl
    rotate_left
    · simp only [Act.put, List.setIfInBounds_toArray, List.set_cons_zero, List.set_cons_succ]
      rfl
    refine pure_ (i := 8) (N := some 20) (v := ?_) (a' := ?_) #[true, true, true, true, true, true, true, true, true, false, false, false, false] rfl rfl (any_of HT_.out (by kernel_rfl)) (fun _ _ _ h => h) (Or.inl ⟨by rfl, ?_⟩) ?_ ?_
    rotate_left
    · intro w'
      go_simp
      try with_reducible rfl
    rotate_left
    · simp only [Act.put, List.setIfInBounds_toArray, List.set_cons_zero, List.set_cons_succ]
      rfl
    refine take_ (i := 9) (N := some 21) (v := ?_) (a' := ?_) #[true, true, true, true, true, true, true, true, true, true, false, false, false] rfl rfl (take_ofW HT_.out HW_.out (by kernel_rfl)) (fun _ _ _ h => h) (Or.inl ⟨by rfl, ?_⟩) hHeld ?_ ?_
    rotate_left
    · rintro w' ⟨s0, s1, s2, s3⟩
      go_simp
      try with_reducible rfl
    rotate_left
    · simp only [Act.put, List.setIfInBounds_toArray, List.set_cons_zero, List.set_cons_succ]
      rfl
    refine one_ (i := 10) (N := some 22) #[true, true, true, true, true, true, true, true, true, true, true, false, false] rfl rfl (one_of HT_.out (by kernel_rfl)) (by decide) (fun K hK => ?_)
    rw [if_pos (by rfl)]
    go_simp
    obtain ⟨W2, hW2⟩ : ∃ W2, (W1.alloc (.cells #[.int .i64 f0, .string f1, .int .i64 f2, .int .i64 1] 42 (0, 0))).drew = W2 := ⟨_, rfl⟩
    rw [hW2]
    have hb2 : Below W1.heap.size W1 W2 := by rw [← hW2]; exact ((Below.refl _ W1).alloc (Nat.le_refl _) _).drew
    have hn2 : W2.heap[W1.heap.size]? = some (.cells #[.int .i64 f0, .string f1, .int .i64 f2, .int .i64 1] 42 (0, 0)) := by rw [← hW2]; exact heap_alloc_new W1 _
    have hs2 : W2.heap.size = W1.heap.size + 1 := by rw [← hW2]; simp
    clear hW2
    have hx2 := (hb2.block _ (by have := HS.out; omega)).trans HX.out
    have d0 : W2.cell? ⟨w.heap.size, 0, none⟩ = some (.int .i64 f0) := by rw [cell_of_row W2 _ 0 _ _ _ hx2]; rfl
    have d1 : W2.cell? ⟨w.heap.size, 1, none⟩ = some (.string f1) := by rw [cell_of_row W2 _ 1 _ _ _ hx2]; rfl
    have d2 : W2.cell? ⟨w.heap.size, 2, none⟩ = some (.int .i64 f2) := by rw [cell_of_row W2 _ 2 _ _ _ hx2]; rfl
    have d3 : W2.cell? ⟨w.heap.size, 3, none⟩ = some (.int .i64 1) := by rw [cell_of_row W2 _ 3 _ _ _ hx2]; rfl
    refine hK.out _ _ ⟨d0, d1, d2, d3⟩ (fun hHeld => ?_)
    clear hK K
    obtain ⟨v', W3, hap, hrow3, hb3⟩ := append_row (x := ⟨f0, f1, f2, 1⟩) (Kd.C_below HC.out hb2) (fun h => (HNIL.out h).1) (by omega) ⟨W1.heap.size, 0, none⟩ (by
      intro j u hj
      have e : (⟨W1.heap.size, 0, none⟩ : Addr).add j = ⟨W1.heap.size, j, none⟩ := by simp [Addr.add]; omega
      rw [e, cell_of_row W2 _ _ _ _ _ hn2]
      simpa using hj)
    have HROW := Aside0.mk hrow3
    clear hrow3
    refine one_ (i := 11) (N := some 23) #[true, true, true, true, true, true, true, true, true, true, true, true, false] rfl rfl (one_of HT_.out (by kernel_rfl)) (by decide) (fun K hK => ?_)
    refine append_one rfl (by rfl) rfl rfl hap rfl ?_
    have hx3 := (hb3.block _ (by have := (Array.getElem?_eq_some_iff.1 hx2).1; omega)).trans hx2
    have e0 : W3.cell? ⟨w.heap.size, 0, none⟩ = some (.int .i64 f0) := by rw [cell_of_row W3 _ 0 _ _ _ hx3]; rfl
    have e1 : W3.cell? ⟨w.heap.size, 1, none⟩ = some (.string f1) := by rw [cell_of_row W3 _ 1 _ _ _ hx3]; rfl
    have e2 : W3.cell? ⟨w.heap.size, 2, none⟩ = some (.int .i64 f2) := by rw [cell_of_row W3 _ 2 _ _ _ hx3]; rfl
    have e3 : W3.cell? ⟨w.heap.size, 3, none⟩ = some (.int .i64 1) := by rw [cell_of_row W3 _ 3 _ _ _ hx3]; rfl
    refine hK.out _ _ ⟨e0, e1, e2, e3⟩ (fun hHeld => ?_)
    clear hK K
    have hown3 := HOWN.out.kept (below_grown (hb2.trans (hb3.mono hb2.size)) none) (by simp)
    obtain ⟨W4, hupd, hown4, hg4⟩ := hown3.update kBook Try.underlying59 (by have := HN.out; simp only [maxLen]; omega) (val := v') (d := .held v') (ps := []) hkey rfl
    refine one_ (i := 12) (N := none) #[true, true, true, true, true, true, true, true, true, true, true, true, true] rfl rfl (one_of HT_.out (by kernel_rfl)) (by decide) (fun K hK => ?_)
    refine update_one rfl (by rfl) rfl rfl rfl hupd rfl ?_
    have hx4 := (hg4.block _ (by have := (Array.getElem?_eq_some_iff.1 hx3).1; omega) (by have := HOWN.out.lt; have := hblt; intro e; injection e with e; omega)).trans hx3
    have k0 : W4.cell? ⟨w.heap.size, 0, none⟩ = some (.int .i64 f0) := by rw [cell_of_row W4 _ 0 _ _ _ hx4]; rfl
    have k1 : W4.cell? ⟨w.heap.size, 1, none⟩ = some (.string f1) := by rw [cell_of_row W4 _ 1 _ _ _ hx4]; rfl
    have k2 : W4.cell? ⟨w.heap.size, 2, none⟩ = some (.int .i64 f2) := by rw [cell_of_row W4 _ 2 _ _ _ hx4]; rfl
    have k3 : W4.cell? ⟨w.heap.size, 3, none⟩ = some (.int .i64 1) := by rw [cell_of_row W4 _ 3 _ _ _ hx4]; rfl
    refine hK.out _ _ ⟨k0, k1, k2, k3⟩ (fun hHeld => ?_)
    clear hK K
    refine done_ (done_of HT_.out (by kernel_rfl)) ?_
    have hb13 : Below W1.heap.size W1 W3 := hb2.trans (hb3.mono hb2.size)
    have hmap3 : W3.heap[b]? = some (.map es clock) := (hb13.block b (by have := HS.out; omega)).trans HM.out
    have hD3 : BookD W3 D xs := fun key => ⟨(HD.out key).1, by
      obtain ⟨v, e, hr⟩ := (HD.out key).2
      exact ⟨v, e, hr.below hb13⟩⟩
    have hrow : Row W3 v' (own f1 xs ++ [⟨f0, f1, f2, 1⟩]) := by rw [HO.out]; exact HROW.out
    refine ⟨rfl, _, results_none _ _, rfl, ⟨_, n + 1, hown4, by have := HN.out; simp; omega, Book.put (n := n) (r := ⟨f0, f1, f2, 1⟩) hmap3 hD3 rfl HOWN.out.isMap hrow hg4⟩, ?_⟩
    exact (Keeps.of_below (HB.out.trans (hb13.mono HB.out.size)) _).trans' (Keeps.mk (ex := fun k => k = b) hg4.os hg4.tape hg4.output hg4.size (fun k hk hn => hg4.block k hk (fun e => hn (by injection e)))) (fun i hi => .inl hi)
end Go.Proofs.Ytmlpahjmebfgbaa.Own
