/- Lemmas for a claim of this seat: texts of this session and of the kit's print, without what this claim does not use. -/
import Derived.Test.YtmlpahjmebfgbaaUPut
import Derived.Test.YtmlpahjmebfgbaaUShelf
namespace Go.Proofs.Ytmlpahjmebfgbaa.Own
open Go.RowKit Go.Proofs.YtmlpahjmebfgbaaW.PrintWords Go.Proofs.YtmlpahjmebfgbaaW.PrintLast Go.Proofs.YtmlpahjmebfgbaaW.PrintMore Go.Proofs.Ytmlpahjmebfgbaa.PEx
set_option linter.unusedVariables false
set_option linter.unusedSimpArgs false

/-- Go's order of strings. -/
def klt (a b : ByteArray) : Prop := a.data.toList < b.data.toList
theorem klt_irrefl (a : ByteArray) : ¬ klt a a := List.lt_irrefl _
theorem klt_trans {a b c : ByteArray} (h : klt a b) (h' : klt b c) : klt a c := List.lt_trans h h'

/-- The keys that took something, in order. -/
structure KeysOf (xs : List S42) (ks : List ByteArray) : Prop where
  sorted : ks.Pairwise klt
  mem : ∀ key, key ∈ ks ↔ own key xs ≠ []

/-- Two rows in order that hold the same are the same. -/
theorem sorted_unique : ∀ {a b : List ByteArray}, a.Pairwise klt → b.Pairwise klt → (∀ x, x ∈ a ↔ x ∈ b) → a = b
  | [], [], _, _, _ => rfl
  | [], y :: b, _, _, h => absurd ((h y).2 (by simp)) (by simp)
  | x :: a, [], _, _, h => absurd ((h x).1 (by simp)) (by simp)
  | x :: a, y :: b, ha, hb, h => by
    obtain ⟨h1, h2⟩ := List.pairwise_cons.1 ha
    obtain ⟨g1, g2⟩ := List.pairwise_cons.1 hb
    have hxy : x = y := by
      rcases List.mem_cons.1 ((h x).1 (by simp)) with e | hx
      · exact e
      · rcases List.mem_cons.1 ((h y).2 (by simp)) with e | hy
        · exact e.symm
        · exact absurd (klt_trans (h1 y hy) (g1 x hx)) (klt_irrefl x)
    subst hxy
    rw [sorted_unique h2 g2 (fun z => ?_)]
    constructor
    · intro hz
      rcases List.mem_cons.1 ((h z).1 (by simp [hz])) with e | hz'
      · subst e; exact absurd (h1 z hz) (klt_irrefl z)
      · exact hz'
    · intro hz
      rcases List.mem_cons.1 ((h z).2 (by simp [hz])) with e | hz'
      · subst e; exact absurd (g1 z hz) (klt_irrefl z)
      · exact hz'

theorem keys_of_map {w : World} {b n : Nat} {D : DataW Value} {xs : List S42} (hown : w.ownsMap Try.prog 9 rawR b n D) (hD : BookD w D xs) {ss : List (List UInt8)} (hp : ss.Perm (Go.strKeys D)) :
    KeysOf xs ((ss.mergeSort (fun x y => decide (x ≤ y))).map fun l => ⟨l.toArray⟩) := by
  obtain ⟨es, rfl, hpw, hkl⟩ := hown.entries kBook
  obtain ⟨es', e', hks⟩ := hown.keysOf
  injection e' with e'
  subst e'
  have hstr : ∀ p ∈ es, ∃ x : List UInt8, p.1 = .string x := fun p hp => by
    obtain ⟨v, hv⟩ := hks p hp
    obtain ⟨x, _, hx, _⟩ := Maps.keyOf_str Try.underlying9 hv
    exact ⟨x, hx⟩
  have hmem : ∀ x : List UInt8, x ∈ Go.strKeys (.map es) ↔ Maps.has (.map es) (.string x) = true := fun x => by
    rw [Maps.has_eq, List.any_eq_true]
    show x ∈ es.map (fun p => Go.strOf p.1) ↔ _
    rw [List.mem_map]
    constructor
    · rintro ⟨p, hp, rfl⟩
      obtain ⟨y, hy⟩ := hstr p hp
      exact ⟨p, hp, by rw [hy]; simp [Go.strOf, Lit.sameKey]⟩
    · rintro ⟨p, hp, h⟩
      have := WideAt.sameKey_eq h
      exact ⟨p, hp, by rw [this]; rfl⟩
  have hnd : (Go.strKeys (.map es)).Nodup := by
    show (es.map fun p => Go.strOf p.1).Nodup
    refine List.pairwise_map.2 (hpw.imp_of_mem fun {p q} hp' hq' hne e => hne ?_)
    obtain ⟨a, ha⟩ := hstr p hp'
    obtain ⟨b, hb⟩ := hstr q hq'
    rw [ha, hb] at e ⊢
    exact congrArg _ e
  have tr : ∀ a b c : List UInt8, (decide (a ≤ b)) = true → (decide (b ≤ c)) = true → (decide (a ≤ c)) = true := fun a b c h1 h2 => by simp only [decide_eq_true_eq] at *; exact List.le_trans h1 h2
  have tot : ∀ a b : List UInt8, ((decide (a ≤ b)) || (decide (b ≤ a))) = true := fun a b => by simp only [Bool.or_eq_true, decide_eq_true_eq]; exact List.le_total a b
  have hsp := List.pairwise_mergeSort tr tot ss
  have hperm := (List.mergeSort_perm ss (fun x y => decide (x ≤ y))).trans hp
  have hnd' := hperm.symm.nodup hnd
  refine ⟨?_, fun key => ?_⟩
  · rw [List.pairwise_map]
    have hboth := hsp.and hnd'
    refine hboth.imp fun {a b} h => ?_
    have h1 : a ≤ b := of_decide_eq_true h.1
    show a.toArray.toList < b.toArray.toList
    simp only [List.toList_toArray]
    rcases List.le_iff_lt_or_eq.1 h1 with h2 | h2
    · exact h2
    · exact absurd h2 h.2
  · rw [List.mem_map]
    have h1 := (hD key).1
    constructor
    · rintro ⟨l, hl, rfl⟩
      have h2 := (hmem l).1 (hperm.mem_iff.1 hl)
      have h3 : Maps.has (.map es) (lk ⟨l.toArray⟩) = true := by simpa [lk] using h2
      rw [h1] at h3
      simpa using h3
    · intro h
      have h3 : Maps.has (.map es) (lk key) = true := by rw [h1]; simpa using h
      exact ⟨key.data.toList, hperm.mem_iff.2 ((hmem _).2 h3), by simp⟩

theorem keys_read {w : World} {base : Nat} {v : Value} {m : List (List UInt8)} (h : w.ownsRow base 9 1 v m.length (m.map encStr)) :
    ∃ A c, v = .slice A m.length c ∧ Kd.C Kd.string w A m.length (m.map fun l => (⟨l.toArray⟩ : ByteArray)) := by
  have e : m.map encStr = encs Value.string (m.map fun l => (⟨l.toArray⟩ : ByteArray)) := by
    simp [encs, encStr, Function.comp_def]
  rw [e] at h
  exact own_reads_row h (Kd.reps_scalar _) (by simp)

/-- Who owes at a tick, of those keys. -/
def owes (kind num den width count at_ : Int) (xs : List S42) (key : ByteArray) : Bool := decide (owedX kind num den width count at_ (own key xs) ≠ 0)

set_option maxRecDepth 100000 in
set_option maxHeartbeats 4000000 in
theorem holders_fn (a0_0 a0_1 a0_2 a0_3 a0_4 a0_5 a0_6 a0_7 a0_8 a0_9 : Int) (b : Nat) (xs : List S42) (at_ : Int) (w : World) (hB : Book w b xs) (hp : okP a0_0 a0_2 a0_3 a0_4 a0_5) (hok : ∀ r ∈ xs, okR r ∧ r.f1.size ≤ maxLen) (ht0 : 0 ≤ at_) (ht : at_ ≤ 1099511627776) (hlen : xs.length ≤ 10000) :
    Calls Try.prog 35 #[.map (some b), .agg #[.int .i64 a0_0, .int .i64 a0_1, .int .i64 a0_2, .int .i64 a0_3, .int .i64 a0_4, .int .i64 a0_5, .int .i64 a0_6, .int .i64 a0_7, .int .i64 a0_8, .int .i64 a0_9], .int .i64 at_] w fun e w' =>
      ∃ v ks, e = .returned v ∧ KeysOf xs ks ∧ Kd.R Kd.string 9 w' w.heap.size (fun _ => True) v (ks.filter (owes a0_0 a0_2 a0_3 a0_4 a0_5 at_ xs)) ∧ Below w.heap.size w w' := by
  obtain ⟨D, n, hown, hn, hD⟩ := hB
  refine calls_of_wp Try.func35 rfl ?_
  simp only [Try.ntmps35, List.size_toArray, List.length_cons, List.length_nil, Nat.reduceAdd, Nat.reduceSub, Array.replicate_succ, Array.replicate_zero, List.push_toArray, List.append_toArray, List.nil_append, List.cons_append]
  go_wp2_with fail
  refine (callsIn_wide.1 (sh_maps_Keys_54 (some b) _)).mono ?_
  rintro e w1 ⟨rfl, rfl⟩
  obtain ⟨W0, hW0⟩ : ∃ W0, w.alloc (.cells #[.int .i64 a0_0, .int .i64 a0_1, .int .i64 a0_2, .int .i64 a0_3, .int .i64 a0_4, .int .i64 a0_5, .int .i64 a0_6, .int .i64 a0_7, .int .i64 a0_8, .int .i64 a0_9] 23 (0, 0)) = W0 := ⟨_, rfl⟩
  rw [hW0]
  have hb0 : Below w.heap.size w W0 := by rw [← hW0]; exact (Below.refl _ w).alloc (Nat.le_refl _) _
  have g0 : W0.heap[w.heap.size]? = some (.cells #[.int .i64 a0_0, .int .i64 a0_1, .int .i64 a0_2, .int .i64 a0_3, .int .i64 a0_4, .int .i64 a0_5, .int .i64 a0_6, .int .i64 a0_7, .int .i64 a0_8, .int .i64 a0_9] 23 (0, 0)) := by rw [← hW0]; exact heap_alloc_new w _
  have hs0 : W0.heap.size = w.heap.size + 1 := by rw [← hW0]; simp
  clear hW0
  have hown0 := hown.kept (below_grown hb0 none) (by simp)
  have hD0 : BookD W0 D xs := fun key => ⟨(hD key).1, by
    obtain ⟨v, e, hr⟩ := (hD key).2
    exact ⟨v, e, hr.below hb0⟩⟩
  have hsz := hown0.size_le
  go_wp2_with fail
  have hmax : Maps.size D ≤ maxLen := by simp only [maxLen]; omega
  have hS := callsIn_wide.1 (sh_slices_Sorted_keys_51_54 b n D rawR W0 hown0 hmax (by omega))
  rw [hs0] at hS
  refine hS.mono ?_
  clear hS
  rintro e w2 ⟨v, ss, rfl, hperm, hrow, hnil, hb2⟩
  have hks := keys_of_map hown0 hD0 hperm
  have hssl : ss.length = Maps.size D := by
    obtain ⟨es, eD, _⟩ := hown0.entries kBook
    rw [hperm.length_eq, eD]
    simp [Go.strKeys, Maps.size]
  obtain ⟨A, c, ev, hC⟩ := keys_read (m := ss.mergeSort (fun x y => decide (x ≤ y))) (by rw [List.length_mergeSort]; exact hrow)
  subst ev
  have hkl : ((ss.mergeSort (fun x y => decide (x ≤ y))).map fun l => (⟨l.toArray⟩ : ByteArray)).length = (ss.mergeSort (fun x y => decide (x ≤ y))).length := by simp
  have hklen : ((ss.mergeSort (fun x y => decide (x ≤ y))).map fun l => (⟨l.toArray⟩ : ByteArray)).length ≤ 10000 := by rw [hkl, List.length_mergeSort]; omega
  rw [← hkl] at hC ⊢
  clear hrow hnil
  generalize hK : ((ss.mergeSort (fun x y => decide (x ≤ y))).map fun l => (⟨l.toArray⟩ : ByteArray)) = ks at hks hC hklen ⊢
  clear hK hkl hperm hssl
  have hbw2 : Below W0.heap.size W0 w2 := ((Below.refl _ W0).alloc (Nat.le_refl _) _).trans (hb2.mono (by simp))
  have hbk : Book w2 b xs := by
    refine ⟨D, n, hown0.kept (below_grown hbw2 none) (by simp), hn, fun key => ⟨(hD0 key).1, ?_⟩⟩
    obtain ⟨v, e, hr⟩ := (hD0 key).2
    exact ⟨v, e, hr.below hbw2⟩
  have g2 := (hbw2.block _ (by omega)).trans g0
  have hbf : Below w.heap.size w w2 := hb0.trans (hbw2.mono hb0.size)
  have hsw : w.heap.size < w2.heap.size := by have := hbw2.size; omega
  clear hb2 hbw2 hown0 hD0 g0 hs0 hb0 hmax hsz hown hD
  have HKS := Aside0.mk hks
  have HC := Aside0.mk hC
  have HBK := Aside0.mk hbk
  have HG := Aside0.mk g2
  have HBF := Aside0.mk hbf
  clear hks hC hbk g2 hbf
  have hkn : ks.length ≤ 9223372036854775807 := HC.out.2.1
  have hksz : ∀ key ∈ ks, key.size ≤ maxLen := fun key hkey => by
    cases h : own key xs with
    | nil => exact absurd h ((HKS.out.mem key).1 hkey)
    | cons r rs =>
      have hm := own_mem (show r ∈ own key xs from by rw [h]; simp)
      rw [← hm.2.1]
      exact (hok r hm.1).2
  go_wp2_with fail
  go_loopw [7, 14] (fun vo i wr => ∃ j : Nat, j ≤ ks.length ∧ i = .int .i64 (j : Int) ∧ Aside0 (Kd.R Kd.string 9 wr w2.heap.size (fun k => w2.heap.size ≤ k) vo ((ks.take j).filter (owes a0_0 a0_2 a0_3 a0_4 a0_5 at_ xs)) ∧ Below w2.heap.size w2 wr)) (fun _ i _ => ks.length - (intOf i).toNat)
  case atStart => exact ⟨0, by omega, rfl, ⟨Kd.R_nil _ _ _ _ _, Below.refl _ _⟩⟩
  case round =>
    obtain ⟨j, hj, rfl, BS⟩ := hrel
    by_cases hlt : j < ks.length
    · have i0 : (0 : Int) ≤ (j : Int) := by omega
      have i1 : (j : Int) < (ks.length : Int) := by omega
      obtain ⟨ad, eA, c0⟩ := Kd.at_string HC.out (j : Int) i0 i1
      subst eA
      replace c0 := (BS.out.2.cell (World.block_lt_of_cell? w2 _ c0)).trans c0
      have hmem : rdOf ByteArray.empty ks (j : Int) ∈ ks := by
        unfold rdOf
        rw [Int.toNat_natCast, List.getD_eq_getElem?_getD, List.getElem?_eq_getElem hlt]
        exact List.getElem_mem hlt
      have htk : ks.take (j + 1) = ks.take j ++ [rdOf ByteArray.empty ks (j : Int)] := by
        rw [List.take_add_one]
        congr 1
        unfold rdOf
        rw [Int.toNat_natCast, List.getD_eq_getElem?_getD, List.getElem?_eq_getElem hlt]
        rfl
      have HTK := Aside0.mk htk
      clear htk
      have hksj := hksz _ hmem
      simp only [Int.toNat_natCast] at c0
      generalize rdOf ByteArray.empty ks (j : Int) = key at c0 hmem HTK hksj
      have hbr := HBK.out.below BS.out.2
      obtain ⟨Ao, co, hlook, hco, hCo⟩ := hbr.look hksj
      have gr := (BS.out.2.block _ hsw).trans HG.out
      have hol := own_length key xs
      have hown : ∀ r ∈ own key xs, okR r := fun r h => (hok r (own_mem h).1).1
      have HCO := Aside0.mk hCo
      clear hCo hbr
      go_wp2_with (first | ((with_reducible refine gload 23 rfl ?_); refine wpList_load_blk rfl 23 _ rfl w.heap.size _ 23 _ rfl gr _ Try.underlying23 rfl info23 ?_) | fail)
      refine (owed_any a0_0 a0_1 a0_2 a0_3 a0_4 a0_5 a0_6 a0_7 a0_8 a0_9 at_ Ao co (own key xs) _ HCO.out hp hown ht0 ht (by omega)).mono ?_
      rintro e w3 ⟨rfl, hb3⟩
      have hb23 : Below w2.heap.size w2 w3 := BS.out.2.trans (hb3.mono BS.out.2.size)
      have HR3 := Aside0.mk (Kd.R_below BS.out.1 hb3)
      have HB3 := Aside0.mk hb23
      clear hb3 hb23 BS hlook c0 hown gr
      by_cases hz : owedX a0_0 a0_2 a0_3 a0_4 a0_5 at_ (own key xs) = 0
      · have hno : owes a0_0 a0_2 a0_3 a0_4 a0_5 at_ xs key = false := by simp [owes, hz]
        rw [hz]
        have HN : Aside0 (Kd.R Kd.string 9 w3 w2.heap.size (fun k => w2.heap.size ≤ k) u7 ((ks.take (j + 1)).filter (owes a0_0 a0_2 a0_3 a0_4 a0_5 at_ xs)) ∧ Below w2.heap.size w2 w3) := ⟨by rw [HTK.out, List.filter_append]; simpa [hno] using HR3.out, HB3.out⟩
        clear hno hz HR3 HB3
        go_wp2_with fail
        go_roundw
        case rel => exact ⟨j + 1, by omega, by go_num, HN⟩
        case measure => simp [intOf]; omega
      · have hyes : owes a0_0 a0_2 a0_3 a0_4 a0_5 at_ xs key = true := by simp [owes, hz]
        have hflt : ((ks.take (j + 1)).filter (owes a0_0 a0_2 a0_3 a0_4 a0_5 at_ xs)) = ((ks.take j).filter (owes a0_0 a0_2 a0_3 a0_4 a0_5 at_ xs)) ++ [key] := by rw [HTK.out, List.filter_append]; simp [hyes]
        have HFL := Aside0.mk hflt
        have hlen2 : ((ks.take j).filter (owes a0_0 a0_2 a0_3 a0_4 a0_5 at_ xs)).length ≤ j := Nat.le_trans (List.length_filter_le _ _) (by simp; omega)
        clear hflt hyes
        generalize ((ks.take j).filter (owes a0_0 a0_2 a0_3 a0_4 a0_5 at_ xs)) = hs at HR3 HFL hlen2
        generalize owedX a0_0 a0_2 a0_3 a0_4 a0_5 at_ (own key xs) = ow at hz
        go_wp2_with (first | ((with_reducible refine gate_builtin (b := .append) (xs := #[.tmp 25, .tmp 27]) rfl ?_); at_builtin; refine Kd.R_append Kd.string (w0 := w2) w2.heap.size rfl (.tmp 25) (.tmp 27) 28 9 (.string ⟨#[]⟩) 16 rfl Try.underlying28 info9 rfl (by decide) (by omega) u7 hs key [.string key] (fun k => w2.heap.size ≤ k) (fun _ => False) rfl rfl rfl (fun _ hk => hk.elim) (fun k hk => Nat.le_trans HB3.out.size hk) HR3.out HB3.out HB3.out.size (by omega) ?_; intro v1 w4 ho hb hg hat; have HN : Aside0 (Kd.R Kd.string 9 w4 w2.heap.size (fun k => w2.heap.size ≤ k) v1 ((ks.take (j + 1)).filter (owes a0_0 a0_2 a0_3 a0_4 a0_5 at_ xs)) ∧ Below w2.heap.size w2 w4) := ⟨(by rw [HFL.out]; exact ho), hb⟩; clear ho hb hg hat HR3 HB3) | fail)
        go_roundw
        case rel => exact ⟨j + 1, by omega, by go_num, HN⟩
        case measure => simp [intOf]; omega
    · obtain rfl : j = ks.length := by omega
      go_wp2_with fail
      go_ret
      refine ⟨_, ks, rfl, HKS.out, ?_, HBF.out.trans (BS.out.2.mono (by omega))⟩
      have := BS.out.1
      rw [List.take_length] at this
      exact Kd.R_lower (Kd.R_mono this (fun _ _ => trivial)) (by omega)
end Go.Proofs.Ytmlpahjmebfgbaa.Own
