import Derived.Test.YtifkmkiljpeaaacGreatLWorR
import Derived.Test.YtifkmkiljpeaaacGreatPFnExactWorldOKxE
import Derived.Test.YtifkmkiljpeaaacGreatPFnExactWorldOKxF
import Derived.Test.YtifkmkiljpeaaacGreatPFnExactWorldOKxG
import Derived.Test.YtifkmkiljpeaaacGreatPFnExactWorldOKxH
set_option linter.unusedVariables false
set_option linter.unusedSimpArgs false
namespace Go.Proofs.YtifkmkiljpeaaacGreat.PFnExactWorldOK
open Go.RowKit Go.Proofs.YtifkmkiljpeaaacGreatW.PrintWords
theorem addL_small : ∀ (l : List S130) (b : S98), b.f3.length ≤ 30 ∧ b.f4.length ≤ 60 → (addL b l).1.f3.length ≤ 30 ∧ (addL b l).1.f4.length ≤ 60
  | [], b, h => h
  | x :: r, b, h => by
    unfold addL
    split; · exact h
    split; · exact h
    split; · exact h
    exact addL_small r _ ⟨by simp; omega, by simp; omega⟩
theorem small_set {xs : List S98} (h : SmallS xs) (i : Nat) {b : S98} (hb : b.f3.length ≤ 30 ∧ b.f4.length ≤ 60) : SmallS (xs.set i b) := by
  refine ⟨by rw [List.length_set]; exact h.1, fun y hy => ?_⟩
  rcases List.mem_or_eq_of_mem_set hy with hy | rfl
  · exact h.2 y hy
  · exact hb
theorem mutL_small {xs : List S98} (h : SmallS xs) (k u m f : Int) (nm : ByteArray) (l : List S130) (h0 : (mutL xs k u m f nm l).2 = 0) : SmallS (mutL xs k u m f nm l).1 := by
  have hrd : ∀ i : Nat, i < xs.length → (rd_T98 xs (i : Int)).f3.length ≤ 30 ∧ (rd_T98 xs (i : Int)).f4.length ≤ 60 := fun i hi => by rw [rdBox xs i hi]; exact h.2 _ (List.getElem_mem hi)
  unfold mutL at h0 ⊢
  split
  · next hk =>
    rw [if_pos hk] at h0
    split
    · exact h
    · split
      · exact h
      · refine ⟨by have := h.1; simp; omega, fun y hy => ?_⟩
        rcases List.mem_append.mp hy with hy | hy
        · exact h.2 y hy
        · rw [List.mem_singleton] at hy; subst hy; exact ⟨by simp, by simp⟩
  · split
    · exact h
    · next hn =>
      rcases idxN_lt nm xs 0 with hx | ⟨i, hi, -, hil⟩
      · exact absurd (by simpa using hx) hn
      have hi' : idxN nm xs 0 = (i : Int) := by simpa using hi
      have hil' : i < xs.length := by omega
      have hb := hrd i hil'
      rw [hi']
      rw [Int.toNat_natCast]
      split
      · exact small_set h i (addL_small l _ hb)
      · split
        · refine small_set h i ?_
          unfold flagsL
          split
          · exact hb
          · exact ⟨by simpa using hb.1, hb.2⟩
        · exact small_set h i ⟨Nat.le_trans (List.length_filter_le _ _) hb.1, hb.2⟩
theorem replF_both : ∀ (rs : List Bytes), (∀ r ∈ rs, r.length ≤ 20000) → ∀ xs, SmallS xs → ∃ o, Ev (fun k => replF (spec_l09Read.f k) (rs.map bs) xs) o ∧ Ev (fun k => replF (impl_readMutation.f k) (rs.map bs) xs) o ∧ (∀ ys, o = some ys → SmallS ys)
  | [], _, xs, h => ⟨some xs, ev_some rfl, ev_some rfl, fun ys e => by injection e with e; exact e ▸ h⟩
  | r :: rs, hr, xs, h => by
    obtain ⟨p1, p2, p3, p4, p5, p6, b, q1, q2, q3, q4, q5, q6, hS, hI, hb⟩ := read_both r (hr r (List.mem_cons_self ..))
    simp only [List.map_cons, replF]
    cases b with
    | false => exact ⟨none, Ev.bind hS (ev_neg (by simp) (ev_some rfl)), Ev.bind hI (ev_neg (by simp) (ev_some rfl)), fun ys e => by cases e⟩
    | true =>
      obtain ⟨rfl, rfl, rfl, rfl, rfl, rfl, h20⟩ := hb rfl
      have hsm : SmallB xs ∧ q6.length ≤ 1048576 := ⟨⟨by have := h.1; omega, fun b hb => by have := h.2 b hb; omega⟩, by omega⟩
      by_cases h0 : (mutL xs q1 q2 q3 q4 q5 q6).2 = 0
      · obtain ⟨o, o1, o2, o3⟩ := replF_both rs (fun x hx => hr x (List.mem_cons_of_mem _ hx)) _ (mutL_small h q1 q2 q3 q4 q5 q6 h0)
        exact ⟨o, Ev.bind hS (ev_pos rfl (ev_pos hsm (ev_pos h0 o1))), Ev.bind hI (ev_pos rfl (ev_pos hsm (ev_pos h0 o2))), o3⟩
      · exact ⟨none, Ev.bind hS (ev_pos rfl (ev_pos hsm (ev_neg h0 (ev_some rfl)))), Ev.bind hI (ev_pos rfl (ev_pos hsm (ev_neg h0 (ev_some rfl)))), fun ys e => by cases e⟩
theorem replay_both (room : Int) (d : Bytes) (sure : Int) (hd : d.length ≤ 65000) : ∃ xs n c, Ev (fun k => spec_l10Replay.f k (bs d)) (xs, n, c) ∧ Ev (fun k => impl_Log_replay.f k room (bs d) sure) (xs, n, c) ∧ SmallS xs := by
  have hR := recsS_ev d hd
  obtain ⟨k1, k2, -⟩ := recs_ok d
  have hQ : impl_Log_records.f room (bs d) sure = some ((recs d).1.map bs, ((recs d).2.1 : Int), (recs d).2.2) := by unfold impl_Log_records.f; rw [if_pos (by rw [bs_size]; omega)]; rfl
  have hlen : ((recs d).1.map bs).length ≤ 1048576 := by rw [List.length_map]; omega
  have h0 : SmallS ([] : List S98) := ⟨by simp, by simp⟩
  obtain ⟨o, o1, o2, o3⟩ := replF_both (recs d).1 (fun r hr => (k1 r hr).2) [] h0
  unfold spec_l10Replay.f impl_Log_replay.f
  cases o with
  | none => exact ⟨[], 0, 3, Ev.bind hR (ev_pos hlen (Ev.bind o1 (ev_some rfl))), ev_bindc hQ (ev_pos hlen (Ev.bind o2 (ev_some rfl))), h0⟩
  | some xs =>
    by_cases h8 : (recs d).2.2 = 8
    · exact ⟨[], 0, 8, Ev.bind hR (ev_pos hlen (Ev.bind o1 (ev_pos h8 (ev_some rfl)))), ev_bindc hQ (ev_pos hlen (Ev.bind o2 (ev_pos h8 (ev_some rfl)))), h0⟩
    · exact ⟨xs, _, 0, Ev.bind hR (ev_pos hlen (Ev.bind o1 (ev_neg h8 (ev_some rfl)))), ev_bindc hQ (ev_pos hlen (Ev.bind o2 (ev_neg h8 (ev_some rfl)))), o3 xs rfl⟩
def eqM (a b : S109) : Bool := (a.f0 == b.f0) && ((a.f1 == b.f1) && (a.f2.toList == b.f2.toList))
def sameM : List S109 → List S109 → Bool
  | a :: x, b :: y => eqM a b && sameM x y
  | _, _ => true
def sameK : List ByteArray → List ByteArray → Bool
  | a :: x, b :: y => (a.toList == b.toList) && sameK x y
  | _, _ => true
theorem neqM (a b : S109) : (!(a.f0 == b.f0) || (!(a.f1 == b.f1) || (!(a.f2.toList == b.f2.toList)))) = !(eqM a b) := by
  unfold eqM
  cases (a.f0 == b.f0) <;> cases (a.f1 == b.f1) <;> cases (a.f2.toList == b.f2.toList) <;> rfl
theorem sameM_drop {x y : List S109} {i : Nat} (hx : i < x.length) (hy : i < y.length) : sameM (x.drop i) (y.drop i) = (eqM x[i] y[i] && sameM (x.drop (i + 1)) (y.drop (i + 1))) := by
  rw [List.drop_eq_getElem_cons hx, List.drop_eq_getElem_cons hy, sameM]
theorem sameK_drop {x y : List ByteArray} {i : Nat} (hx : i < x.length) (hy : i < y.length) : sameK (x.drop i) (y.drop i) = ((x[i].toList == y[i].toList) && sameK (x.drop (i + 1)) (y.drop (i + 1))) := by
  rw [List.drop_eq_getElem_cons hx, List.drop_eq_getElem_cons hy, sameK]
section
variable (l0 l1 : List S98) (p : Int) (n : ByteArray) (v x : Int) (ms : List S109) (ks : List ByteArray) (n' : ByteArray) (v' x' : Int) (ms' : List S109) (ks' : List ByteArray)
theorem sameS_l2 (hk : ks.length = ks'.length) (hl : ks.length ≤ 1048576) : ∀ (m i : Nat), i + m = ks.length →
    (sameK (ks.drop i) (ks'.drop i) = false → Ev (fun k => spec_l09Same.l2 k l0 l1 p i n v x ms ks n' v' x' ms' ks') false) ∧
    (sameK (ks.drop i) (ks'.drop i) = true → ∀ r, Ev (fun k => spec_l09Same.l0 k l0 l1 (wrap64 (p + 1))) r → Ev (fun k => spec_l09Same.l2 k l0 l1 p i n v x ms ks n' v' x' ms' ks') r) := by
  intro m
  induction m with
  | zero =>
    intro i hi
    rw [List.drop_of_length_le (by omega)]
    exact ⟨fun h => (by simp [sameK] at h), fun _ r H => Ev.step (fun _ => spec_l09Same.l2.eq_2 ..) (ev_neg (by omega) H)⟩
  | succ m ih =>
    intro i hi
    have hx : i < ks.length := by omega
    have hy : i < ks'.length := by omega
    rw [sameK_drop hx hy]
    obtain ⟨i1, i2⟩ := ih (i + 1) (by omega)
    by_cases h : ks[i].toList = ks'[i].toList
    · rw [beq_iff_eq.mpr h, Bool.true_and]
      have go : ∀ r, Ev (fun k => spec_l09Same.l2 k l0 l1 p ((i + 1 : Nat) : Int) n v x ms ks n' v' x' ms' ks') r → Ev (fun k => spec_l09Same.l2 k l0 l1 p i n v x ms ks n' v' x' ms' ks') r := by
        intro r H
        refine Ev.step (fun _ => spec_l09Same.l2.eq_2 ..) (ev_pos (by omega) (ev_pos (by omega) (ev_pos (by omega) ?_)))
        rw [rdOf_nat _ ks i hx, rdOf_nat _ ks' i hy, w64n (by omega)]
        exact ev_pos h H
      exact ⟨fun e => go _ (i1 e), fun e r H => go _ (i2 e r H)⟩
    · rw [beq_eq_false_iff_ne.mpr h, Bool.false_and]
      refine ⟨fun _ => ?_, fun e => by cases e⟩
      refine Ev.step (fun _ => spec_l09Same.l2.eq_2 ..) (ev_pos (by omega) (ev_pos (by omega) (ev_pos (by omega) ?_)))
      rw [rdOf_nat _ ks i hx, rdOf_nat _ ks' i hy]
      exact ev_neg h (ev_some rfl)
theorem sameS_l1 (hk : ms.length = ms'.length) (hl : ms.length ≤ 1048576) : ∀ (m i : Nat), i + m = ms.length →
    (sameM (ms.drop i) (ms'.drop i) = false → Ev (fun k => spec_l09Same.l1 k l0 l1 p i n v x ms ks n' v' x' ms' ks') false) ∧
    (sameM (ms.drop i) (ms'.drop i) = true → ∀ r, Ev (fun k => spec_l09Same.l2 k l0 l1 p 0 n v x ms ks n' v' x' ms' ks') r → Ev (fun k => spec_l09Same.l1 k l0 l1 p i n v x ms ks n' v' x' ms' ks') r) := by
  intro m
  induction m with
  | zero =>
    intro i hi
    rw [List.drop_of_length_le (by omega)]
    exact ⟨fun h => (by simp [sameM] at h), fun _ r H => Ev.step (fun _ => spec_l09Same.l1.eq_2 ..) (ev_neg (by omega) H)⟩
  | succ m ih =>
    intro i hi
    have hx : i < ms.length := by omega
    have hy : i < ms'.length := by omega
    rw [sameM_drop hx hy]
    obtain ⟨i1, i2⟩ := ih (i + 1) (by omega)
    cases h : eqM ms[i] ms'[i] with
    | true =>
      rw [Bool.true_and]
      have go : ∀ r, Ev (fun k => spec_l09Same.l1 k l0 l1 p ((i + 1 : Nat) : Int) n v x ms ks n' v' x' ms' ks') r → Ev (fun k => spec_l09Same.l1 k l0 l1 p i n v x ms ks n' v' x' ms' ks') r := by
        intro r H
        refine Ev.step (fun _ => spec_l09Same.l1.eq_2 ..) (ev_pos (by omega) (ev_pos (by omega) (ev_pos (by omega) ?_)))
        rw [rd67 ms i hx, rd67 ms' i hy, w64n (by omega), neqM, h]
        exact ev_neg (by simp) H
      exact ⟨fun e => go _ (i1 e), fun e r H => go _ (i2 e r H)⟩
    | false =>
      rw [Bool.false_and]
      refine ⟨fun _ => ?_, fun e => by cases e⟩
      refine Ev.step (fun _ => spec_l09Same.l1.eq_2 ..) (ev_pos (by omega) (ev_pos (by omega) (ev_pos (by omega) ?_)))
      rw [rd67 ms i hx, rd67 ms' i hy, neqM, h]
      exact ev_pos rfl (ev_some rfl)
end
theorem eqMs_ev (x y : List S109) (hx : x.length ≤ 1048576) : Ev (fun k => impl_Stored.f k x y) (decide (x.length = y.length) && sameM x y) := by
  unfold impl_Stored.f
  by_cases hl : x.length = y.length
  · rw [decide_eq_true hl, Bool.true_and]
    refine ev_pos (by omega) ?_
    have loop : ∀ (m i : Nat), i + m = x.length → Ev (fun k => impl_Stored.l0 k x y (x.length : Int) i) (sameM (x.drop i) (y.drop i)) := by
      intro m
      induction m with
      | zero => intro i hi; rw [List.drop_of_length_le (by omega)]; exact Ev.step (fun _ => impl_Stored.l0.eq_2 ..) (ev_neg (by omega) (ev_some rfl))
      | succ m ih =>
        intro i hi
        have h1 : i < x.length := by omega
        have h2 : i < y.length := by omega
        rw [sameM_drop h1 h2]
        refine Ev.step (fun _ => impl_Stored.l0.eq_2 ..) (ev_pos (by omega) (ev_pos (by omega) (ev_pos (by omega) (ev_pos (by omega) ?_))))
        rw [rd67 x i h1, rd67 y i h2, w64n (by omega), neqM]
        cases eqM x[i] y[i] with
        | true => rw [Bool.true_and]; exact ev_neg (by simp) (ih (i + 1) (by omega))
        | false => exact ev_pos rfl (ev_some rfl)
    have := loop x.length 0 (by omega)
    rwa [List.drop_zero, List.drop_zero] at this
  · rw [decide_eq_false hl, Bool.false_and]
    exact ev_neg (by omega) (ev_some rfl)
theorem eqKs_ev (x y : List ByteArray) (hx : x.length ≤ 1048576) : Ev (fun k => slices_Equal_string_string.f k x y) (decide (x.length = y.length) && sameK x y) := by
  unfold slices_Equal_string_string.f
  by_cases hl : x.length = y.length
  · rw [decide_eq_true hl, Bool.true_and]
    refine ev_pos (by omega) ?_
    have loop : ∀ (m i : Nat), i + m = x.length → Ev (fun k => slices_Equal_string_string.l0 k x y (x.length : Int) i) (sameK (x.drop i) (y.drop i)) := by
      intro m
      induction m with
      | zero => intro i hi; rw [List.drop_of_length_le (by omega)]; exact Ev.step (fun _ => slices_Equal_string_string.l0.eq_2 ..) (ev_neg (by omega) (ev_some rfl))
      | succ m ih =>
        intro i hi
        have h1 : i < x.length := by omega
        have h2 : i < y.length := by omega
        rw [sameK_drop h1 h2]
        refine Ev.step (fun _ => slices_Equal_string_string.l0.eq_2 ..) (ev_pos (by omega) (ev_pos (by omega) (ev_pos (by omega) (ev_pos (by omega) ?_))))
        rw [rdOf_nat _ x i h1, rdOf_nat _ y i h2, w64n (by omega)]
        by_cases h : x[i].toList = y[i].toList
        · rw [beq_iff_eq.mpr h, Bool.true_and]; exact ev_pos h (ih (i + 1) (by omega))
        · rw [beq_eq_false_iff_ne.mpr h, Bool.false_and]; exact ev_neg h (ev_some rfl)
    have := loop x.length 0 (by omega)
    rwa [List.drop_zero, List.drop_zero] at this
  · rw [decide_eq_false hl, Bool.false_and]
    exact ev_neg (by omega) (ev_some rfl)
theorem same_both (l0 l1 : List S98) (h0 : l0.length ≤ 1048576) (hb : ∀ b ∈ l0, b.f3.length ≤ 1048576 ∧ b.f4.length ≤ 1048576) : ∃ r, Ev (fun k => spec_l09Same.f k l0 l1) r ∧ Ev (fun k => impl_sameStore.f k l0 l1) r := by
  unfold spec_l09Same.f impl_sameStore.f
  by_cases hl : ¬ l0.length = l1.length
  · exact ⟨false, ev_neg (by omega) (ev_some rfl), ev_neg hl (ev_some rfl)⟩
  have hl : l0.length = l1.length := by omega
  have loop : ∀ (m i : Nat), i + m = l0.length → ∃ r, Ev (fun k => spec_l09Same.l0 k l0 l1 i) r ∧ Ev (fun k => sameF k (l0.drop i) (l1.drop i)) r := by
    intro m
    induction m with
    | zero =>
      intro i hi
      rw [List.drop_of_length_le (by omega)]
      exact ⟨true, Ev.step (fun _ => spec_l09Same.l0.eq_2 ..) (ev_neg (by omega) (ev_some rfl)), by simp only [sameF]; exact ev_some rfl⟩
    | succ m ih =>
      intro i hi
      have h1 : i < l0.length := by omega
      have h2 : i < l1.length := by omega
      obtain ⟨r, r1, r2⟩ := ih (i + 1) (by omega)
      have hz := hb l0[i] (List.getElem_mem h1)
      rw [List.drop_eq_getElem_cons h1, List.drop_eq_getElem_cons h2]
      simp only [sameF, sameB]
      have inS : ∀ q, Ev (fun k => if l0[i].f0.toList = l1[i].f0.toList then (if l0[i].f1 = l1[i].f1 then (if l0[i].f2 = l1[i].f2 then (if (l0[i].f3.length : Int) = (l1[i].f3.length : Int) then (spec_l09Same.j1 k l0 l1 i ((l0[i].f4.length : Int) != (l1[i].f4.length : Int)) l0[i].f0 l0[i].f1 l0[i].f2 l0[i].f3 l0[i].f4 l1[i].f0 l1[i].f1 l1[i].f2 l1[i].f3 l1[i].f4) else some false) else some false) else some false) else some false) q → Ev (fun k => spec_l09Same.l0 k l0 l1 i) q := by
        intro q H
        refine Ev.step (fun _ => spec_l09Same.l0.eq_2 ..) (ev_pos (by omega) (ev_pos (by omega) (ev_pos (by omega) ?_)))
        rw [rdBox l0 i h1, rdBox l1 i h2]
        have bad : ∀ q, Ev (fun k => (some false : Option Bool)) q → Ev (fun k => spec_l09Same.j1 k l0 l1 i true l0[i].f0 l0[i].f1 l0[i].f2 l0[i].f3 l0[i].f4 l1[i].f0 l1[i].f1 l1[i].f2 l1[i].f3 l1[i].f4) q := by
          intro q H
          exact Ev.step (fun _ => spec_l09Same.j1.eq_2 ..) (ev_pos rfl H)
        have cut : ∀ {c : Prop} [Decidable c] {t e e' : Nat → Option Bool} {q : Bool}, Ev (fun k => if c then t k else e k) q → (∀ q, Ev e q → Ev e' q) → (∀ {t' : Nat → Option Bool}, (∀ q, Ev t q → Ev t' q) → Ev (fun k => if c then t' k else e' k) q) := by
          intro c _ t e e' q h he t' ht
          by_cases hc : c
          · refine ev_pos hc (ht q ?_)
            obtain ⟨K, h⟩ := h
            exact ⟨K, fun k hk => (if_pos hc).symm.trans (h k hk)⟩
          · refine ev_neg hc (he q ?_)
            obtain ⟨K, h⟩ := h
            exact ⟨K, fun k hk => (if_neg hc).symm.trans (h k hk)⟩
        exact cut H bad (fun q H => cut H bad (fun q H => cut H bad (fun q H => cut H bad (fun q H => H))))
      by_cases q0 : l0[i].f0.toList = l1[i].f0.toList
      · by_cases q1 : l0[i].f1 = l1[i].f1
        · by_cases q2 : l0[i].f2 = l1[i].f2
          · have hM := eqMs_ev l0[i].f3 l1[i].f3 hz.1
            have hK := eqKs_ev l0[i].f4 l1[i].f4 hz.2
            by_cases q3 : l0[i].f3.length = l1[i].f3.length
            · obtain ⟨m1, m2⟩ := sameS_l1 l0 l1 i l0[i].f0 l0[i].f1 l0[i].f2 l0[i].f3 l0[i].f4 l1[i].f0 l1[i].f1 l1[i].f2 l1[i].f3 l1[i].f4 q3 hz.1 l0[i].f3.length 0 (by omega)
              simp only [List.drop_zero] at m1 m2
              rw [decide_eq_true q3, Bool.true_and] at hM
              by_cases q4 : l0[i].f4.length = l1[i].f4.length
              · obtain ⟨n1, n2⟩ := sameS_l2 l0 l1 i l0[i].f0 l0[i].f1 l0[i].f2 l0[i].f3 l0[i].f4 l1[i].f0 l1[i].f1 l1[i].f2 l1[i].f3 l1[i].f4 q4 hz.2 l0[i].f4.length 0 (by omega)
                simp only [List.drop_zero] at n1 n2
                rw [decide_eq_true q4, Bool.true_and] at hK
                have goS : ∀ q, Ev (fun k => spec_l09Same.l1 k l0 l1 i 0 l0[i].f0 l0[i].f1 l0[i].f2 l0[i].f3 l0[i].f4 l1[i].f0 l1[i].f1 l1[i].f2 l1[i].f3 l1[i].f4) q → Ev (fun k => spec_l09Same.l0 k l0 l1 i) q := by
                  intro q H
                  refine inS q (ev_pos q0 (ev_pos q1 (ev_pos q2 (ev_pos (by omega) (Ev.step (fun _ => spec_l09Same.j1.eq_2 ..) (ev_neg ?_ H))))))
                  rw [q4]; simp
                cases hm : sameM l0[i].f3 l1[i].f3 with
                | false =>
                  rw [hm] at hM
                  exact ⟨false, goS _ (m1 hm), Ev.bind (a := false) (ev_pos q0 (ev_pos q1 (ev_pos q2 (Ev.bind hM (ev_neg (by simp) (ev_some rfl)))))) (ev_neg (by simp) (ev_some rfl))⟩
                | true =>
                  rw [hm] at hM
                  cases hk : sameK l0[i].f4 l1[i].f4 with
                  | false =>
                    rw [hk] at hK
                    exact ⟨false, goS _ (m2 hm _ (n1 hk)), Ev.bind (a := false) (ev_pos q0 (ev_pos q1 (ev_pos q2 (Ev.bind hM (ev_pos rfl hK))))) (ev_neg (by simp) (ev_some rfl))⟩
                  | true =>
                    rw [hk] at hK
                    refine ⟨r, goS _ (m2 hm _ (n2 hk _ ?_)), Ev.bind (a := true) (ev_pos q0 (ev_pos q1 (ev_pos q2 (Ev.bind hM (ev_pos rfl hK))))) (ev_pos rfl r2)⟩
                    rw [w64n (by omega)]; exact r1
              · rw [decide_eq_false q4, Bool.false_and] at hK
                have hj : ((l0[i].f4.length : Int) != (l1[i].f4.length : Int)) = true := bne_iff_ne.mpr (by omega)
                refine ⟨false, inS _ (ev_pos q0 (ev_pos q1 (ev_pos q2 (ev_pos (by omega) (Ev.step (fun _ => spec_l09Same.j1.eq_2 ..) (ev_pos hj (ev_some rfl))))))), ?_⟩
                cases hm : sameM l0[i].f3 l1[i].f3 with
                | false => rw [hm] at hM; exact Ev.bind (a := false) (ev_pos q0 (ev_pos q1 (ev_pos q2 (Ev.bind hM (ev_neg (by simp) (ev_some rfl)))))) (ev_neg (by simp) (ev_some rfl))
                | true => rw [hm] at hM; exact Ev.bind (a := false) (ev_pos q0 (ev_pos q1 (ev_pos q2 (Ev.bind hM (ev_pos rfl hK))))) (ev_neg (by simp) (ev_some rfl))
            · rw [decide_eq_false q3, Bool.false_and] at hM
              exact ⟨false, inS _ (ev_pos q0 (ev_pos q1 (ev_pos q2 (ev_neg (by omega) (ev_some rfl))))), Ev.bind (a := false) (ev_pos q0 (ev_pos q1 (ev_pos q2 (Ev.bind hM (ev_neg (by simp) (ev_some rfl)))))) (ev_neg (by simp) (ev_some rfl))⟩
          · exact ⟨false, inS _ (ev_pos q0 (ev_pos q1 (ev_neg q2 (ev_some rfl)))), Ev.bind (a := false) (ev_pos q0 (ev_pos q1 (ev_neg q2 (ev_some rfl)))) (ev_neg (by simp) (ev_some rfl))⟩
        · exact ⟨false, inS _ (ev_pos q0 (ev_neg q1 (ev_some rfl))), Ev.bind (a := false) (ev_pos q0 (ev_neg q1 (ev_some rfl))) (ev_neg (by simp) (ev_some rfl))⟩
      · exact ⟨false, inS _ (ev_neg q0 (ev_some rfl)), Ev.bind (a := false) (ev_neg q0 (ev_some rfl)) (ev_neg (by simp) (ev_some rfl))⟩
  obtain ⟨r, r1, r2⟩ := loop l0.length 0 (by omega)
  simp only [List.drop_zero] at r2
  exact ⟨r, ev_pos (by omega) r1, ev_pos hl (ev_pos (by omega) r2)⟩
theorem logS_f (room : Int) (t : ByteArray) (sure : Int) : spec_LogOK.f room t sure = some (inB room 0 60000 && (decide ((t.size : Int) ≤ room) && inB sure 0 t.size)) := by
  unfold spec_LogOK.f
  rw [l01In_f, l01In_f]
  cases inB room 0 60000 with
  | false => rfl
  | true =>
    by_cases h : (t.size : Int) ≤ room
    · rw [decide_eq_true h]; show (if (t.size : Int) ≤ room then _ else _) = _; rw [if_pos h]; rfl
    · rw [decide_eq_false h]; show (if (t.size : Int) ≤ room then _ else _) = _; rw [if_neg h]; rfl
theorem logI_f (room : Int) (t : ByteArray) (sure : Int) : impl_LogOK.f room t sure = some (inB room 0 60000 && (decide ((t.size : Int) ≤ room) && inB sure 0 t.size)) := by
  unfold impl_LogOK.f
  rw [within_f, within_f]
  cases inB room 0 60000 with
  | false => rfl
  | true =>
    by_cases h : (t.size : Int) ≤ room
    · rw [decide_eq_true h]; show (if (t.size : Int) ≤ room then _ else _) = _; rw [if_pos h]; rfl
    · rw [decide_eq_false h]; show (if (t.size : Int) ≤ room then _ else _) = _; rw [if_neg h]; rfl
theorem engine_both (room : Int) (t : ByteArray) (sure : Int) (l : List S98) (hn : ∀ b ∈ l, b.f0.size ≤ 1099511627776) : ∃ r, Ev (fun k => spec_EngineOK.f k room t sure l) r ∧ Ev (fun k => impl_EngineOK.f k room t sure l) r ∧ (r = true → l.length ≤ 4) := by
  obtain ⟨d, rfl⟩ : ∃ d, t = bs d := ⟨t.data.toList, (bs_of t).symm⟩
  have badS : Ev (fun k => spec_EngineOK.j0 k true room (bs d) sure l) false := Ev.step (fun _ => spec_EngineOK.j0.eq_2 ..) (ev_pos rfl (ev_some rfl))
  have badI : Ev (fun k => impl_EngineOK.j0 k true room (bs d) sure l) false := Ev.step (fun _ => impl_EngineOK.j0.eq_2 ..) (ev_pos rfl (ev_some rfl))
  unfold spec_EngineOK.f impl_EngineOK.f
  have hS := logS_f room (bs d) sure
  have hI := logI_f room (bs d) sure
  cases hb : (inB room 0 60000 && (decide (((bs d).size : Int) ≤ room) && inB sure 0 (bs d).size)) with
  | false => rw [hb] at hS hI; exact ⟨false, ev_bindc hS (ev_neg (by simp) badS), ev_bindc hI (ev_neg (by simp) badI), fun h => by cases h⟩
  | true =>
    rw [hb] at hS hI
    simp only [Bool.and_eq_true, decide_eq_true_eq, inB_iff] at hb
    rw [bs_size] at hb
    have hd : d.length ≤ 65000 := by omega
    by_cases hs : sure = ((bs d).size : Int)
    · obtain ⟨b, b1, b2, b3⟩ := store_both l hn
      cases b with
      | false => exact ⟨false, ev_bindc hS (ev_pos rfl (ev_pos hs (Ev.bind b1 badS))), ev_bindc hI (ev_pos rfl (ev_pos hs (Ev.bind b2 badI))), fun h => by cases h⟩
      | true =>
        have hR := recsS_ev d hd
        have hQ : impl_Log_records.f room (bs d) sure = some ((recs d).1.map bs, ((recs d).2.1 : Int), (recs d).2.2) := by unfold impl_Log_records.f; rw [if_pos (by rw [bs_size]; omega)]; rfl
        obtain ⟨-, -, k3⟩ := recs_ok d
        have goS : ∀ q, Ev (fun k => if (recs d).2.2 = 0 then (spec_EngineOK.j1 k (((recs d).2.1 : Int) != ((bs d).size : Int)) room (bs d) sure l) else (spec_EngineOK.j1 k true room (bs d) sure l)) q → Ev (fun k => spec_EngineOK.j0 k (!true) room (bs d) sure l) q := by
          intro q H
          exact Ev.step (fun _ => spec_EngineOK.j0.eq_2 ..) (ev_neg (by simp) (Ev.bind hR H))
        have goI : ∀ q, Ev (fun k => if (recs d).2.2 = 0 then ((impl_Log_replay.f k room (bs d) sure).bind fun bt => (if bt.2.2 = 0 then ((impl_sameStore.f k bt.1 l).bind fun t => (some t)) else (some false))) else (some false)) q → Ev (fun k => impl_EngineOK.j0 k (!true) room (bs d) sure l) q := by
          intro q H
          exact Ev.step (fun _ => impl_EngineOK.j0.eq_2 ..) (ev_neg (by simp) (ev_bindc hQ H))
        by_cases h0 : (recs d).2.2 = 0
        · obtain ⟨xs, n, c, r1, r2, r3⟩ := replay_both room d sure hd
          have hat : (((recs d).2.1 : Int) != ((bs d).size : Int)) = false := bne_eq_false_iff_eq.mpr (by rw [bs_size, k3 h0])
          rw [hat] at goS
          by_cases hc : c = 0
          · obtain ⟨r, s1, s2⟩ := same_both xs l (by have := r3.1; omega) (fun b hb => by have := r3.2 b hb; omega)
            refine ⟨r, ev_bindc hS (ev_pos rfl (ev_pos hs (Ev.bind b1 (goS r (ev_pos h0 (Ev.step (fun _ => spec_EngineOK.j1.eq_2 ..) (ev_neg (by simp) (Ev.bind r1 (ev_pos hc (Ev.bind s1 (ev_some rfl))))))))))), ev_bindc hI (ev_pos rfl (ev_pos hs (Ev.bind b2 (goI r (ev_pos h0 (Ev.bind r2 (ev_pos hc (Ev.bind s2 (ev_some rfl))))))))), fun _ => b3 rfl⟩
          · exact ⟨false, ev_bindc hS (ev_pos rfl (ev_pos hs (Ev.bind b1 (goS false (ev_pos h0 (Ev.step (fun _ => spec_EngineOK.j1.eq_2 ..) (ev_neg (by simp) (Ev.bind r1 (ev_neg hc (ev_some rfl)))))))))), ev_bindc hI (ev_pos rfl (ev_pos hs (Ev.bind b2 (goI false (ev_pos h0 (Ev.bind r2 (ev_neg hc (ev_some rfl)))))))), fun h => by cases h⟩
        · exact ⟨false, ev_bindc hS (ev_pos rfl (ev_pos hs (Ev.bind b1 (goS false (ev_neg h0 (Ev.step (fun _ => spec_EngineOK.j1.eq_2 ..) (ev_pos rfl (ev_some rfl)))))))), ev_bindc hI (ev_pos rfl (ev_pos hs (Ev.bind b2 (goI false (ev_neg h0 (ev_some rfl)))))), fun h => by cases h⟩
    · exact ⟨false, ev_bindc hS (ev_pos rfl (ev_neg hs badS)), ev_bindc hI (ev_pos rfl (ev_neg hs badI)), fun h => by cases h⟩
end Go.Proofs.YtifkmkiljpeaaacGreat.PFnExactWorldOK
