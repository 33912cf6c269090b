/- OverLine: the law is true. Plain. -/
import Derived.Test.YtifkmkiljpeaaabDoorPFnExactOverLinex8
import Derived.Test.YtifkmkiljpeaaabDoorLOverP
set_option linter.unusedVariables false
set_option linter.unusedSimpArgs false
namespace Go.Proofs.YtifkmkiljpeaaabDoor.PFnExactOverLine
open Go.RowKit Go.Proofs.YtifkmkiljpeaaabDoorW.PrintWords
/-! A number's digits. -/
theorem digits_len : ∀ (n : Nat), n ≤ 2000000 → (Lib.decDigits n).length ≤ 20 := by
  have : ∀ (d n : Nat), n < 10 ^ (d + 1) → (Lib.decDigits n).length ≤ d + 1 := by
    intro d
    induction d with
    | zero => intro n h; rw [Lib.decDigits, dif_pos (by simpa using h)]; simp
    | succ d ih =>
      intro n h
      rw [Lib.decDigits]
      split
      · simp
      · have := ih (n / 10) (by rw [Nat.pow_succ] at h; omega)
        rw [List.length_append, List.length_singleton]; omega
  intro n hn
  exact Nat.le_trans (this 6 n (Nat.lt_of_le_of_lt hn (by decide))) (by omega)
theorem digits_ev : ∀ (n : Nat), n ≤ 2000000 → Ev (fun k => spec_l00Digits.f k (n : Int)) (bs (Lib.decDigits n)) := by
  intro n
  induction n using Nat.strongRecOn with
  | ind n ih =>
    intro hn
    refine Ev.step (fun _ => spec_l00Digits.f.eq_2 ..) (ev_neg (by omega) (ev_neg (by omega) ?_))
    rw [Lib.decDigits]
    by_cases h : n < 10
    · rw [dif_pos h]
      refine ev_pos (by omega) (ev_some ?_)
      rw [w64 (by omega) (by omega), strOf_one]
      have : (((48 + (n : Int)) % 256) : Int).toNat = 48 + n := by omega
      rw [this]
    · rw [dif_neg h]
      have e1 : wrap64 (Int.tdiv (n : Int) 10) = ((n / 10 : Nat) : Int) := by
        rw [Int.tdiv_eq_ediv_of_nonneg (by omega), w64 (by omega) (by omega)]; omega
      have e2 : wrap64 (48 + Int.tmod (n : Int) 10) % 256 = ((48 + n % 10 : Nat) : Int) := by
        rw [Int.tmod_eq_emod_of_nonneg (by omega), w64 (by omega) (by omega)]; omega
      rw [e1, e2]
      refine ev_neg (by omega) (Ev.bind (ih (n / 10) (by omega) (by omega)) (ev_bindc rfl ?_))
      rw [strOf_one, Int.toNat_natCast]
      have hlen : (Lib.decDigits (n / 10)).length ≤ 20 := digits_len _ (by omega)
      refine ev_pos (by rw [bs_size, bs_size]; simp; omega) (ev_some ?_)
      rw [bs_append]
theorem itoa_nat (n : Nat) : Lib.itoa (n : Int) = Lib.decDigits n := by unfold Lib.itoa; rw [if_neg (by omega), Int.toNat_natCast]
theorem itoaF (n : Nat) (h : n ≤ 2000000) : strconv_Itoa.f (n : Int) = some (bs (Lib.decDigits n)) := by
  unfold strconv_Itoa.f; rw [if_pos ⟨by omega, by omega⟩, itoa_nat]
/-! A field's value, by its name. -/
def lowB (l : Bytes) : Bytes := l.map lowC
theorem lowL_bs (l : Bytes) : lowL (bs l) = bs (lowB l) := rfl
theorem rdFl (fs : Flds) (i : Nat) (h : i < fs.length) : rd_T50 (flS fs) (i : Int) = ⟨bs fs[i].1, bs fs[i].2⟩ := by
  unfold rd_T50 flS
  rw [Int.toNat_natCast, List.getD, List.getElem?_eq_getElem (by simpa using h)]
  simp
def findF (fs : Flds) (nm : Bytes) : Option (Bytes × Bytes) := fs.find? fun x => lowB x.1 == lowB nm
def valF2 (fs : Flds) (nm : Bytes) : Bytes := match findF fs nm with | none => [] | some x => x.2
theorem lowSF (l : Bytes) (h : l.length ≤ maxLen) : spec_l07Lower.f (bs l) = some (bs (lowB l)) := by
  unfold spec_l07Lower.f; rw [if_pos (by rw [bs_size]; exact h)]; rfl
theorem fieldS_ev (fs : Flds) (hf : fs.length ≤ 40) (hs : smallF fs) (B : ByteArray) (nm : Bytes) (hn : nm.length ≤ 100) : Ev (fun k => spec_l07Field.f k (flS fs) B (bs nm)) (match findF fs nm with | none => ((⟨#[]⟩ : ByteArray), false) | some x => (bs x.2, true)) := by
  have hmx : (1000 : Nat) ≤ maxLen := by decide
  have loop : ∀ (m i : Nat), i + m = fs.length → Ev (fun k => spec_l07Field.l0 k (bs nm) i (flS fs) B) (match findF (fs.drop i) nm with | none => ((⟨#[]⟩ : ByteArray), false) | some x => (bs x.2, true)) := by
    intro m
    induction m with
    | zero => intro i hi; rw [List.drop_of_length_le (by omega)]; exact Ev.step (fun _ => spec_l07Field.l0.eq_2 ..) (ev_neg (by rw [flS_len]; omega) (ev_some rfl))
    | succ m ih =>
      intro i hi
      have hlt : i < fs.length := by omega
      have hz := hs fs[i] (List.getElem_mem hlt)
      refine Ev.step (fun _ => spec_l07Field.l0.eq_2 ..) (ev_pos (by rw [flS_len]; omega) (ev_pos (by omega) ?_))
      rw [rdFl fs i hlt, w64n (by omega)]
      refine ev_bindc (lowSF fs[i].1 (by omega)) (ev_bindc (lowSF nm (by omega)) ?_)
      rw [List.drop_eq_getElem_cons hlt, bs_toList, bs_toList]
      unfold findF
      rw [List.find?_cons]
      by_cases h : lowB fs[i].1 = lowB nm
      · rw [show (lowB fs[i].1 == lowB nm) = true from by simpa using h]
        exact ev_pos h (ev_some rfl)
      · rw [show (lowB fs[i].1 == lowB nm) = false from by simpa using h]
        exact ev_neg h (ih (i + 1) (by omega))
  unfold spec_l07Field.f
  exact loop fs.length 0 (by omega)
theorem idxF_find (nm : Bytes) : ∀ (fs : Flds) (i : Int), 0 ≤ i → (idxF (bs nm) (flS fs) i = -1 ∧ findF fs nm = none) ∨ ∃ (k : Nat) (h : k < fs.length), idxF (bs nm) (flS fs) i = i + k ∧ findF fs nm = some fs[k]
  | [], i, _ => Or.inl ⟨rfl, rfl⟩
  | x :: fs, i, hi => by
    have e : flS (x :: fs) = (⟨bs x.1, bs x.2⟩ : S50) :: flS fs := rfl
    rw [e]
    unfold idxF findF
    rw [List.find?_cons, lowL_bs, lowL_bs, bs_toList, bs_toList]
    by_cases h : lowB x.1 = lowB nm
    · rw [if_pos h, show (lowB x.1 == lowB nm) = true from by simpa using h]
      exact Or.inr ⟨0, by simp, by simp, rfl⟩
    · rw [if_neg h, show (lowB x.1 == lowB nm) = false from by simpa using h]
      rcases idxF_find nm fs (i + 1) (by omega) with ⟨h1, h2⟩ | ⟨k, hk, h1, h2⟩
      · exact Or.inl ⟨h1, h2⟩
      · exact Or.inr ⟨k + 1, by simp; omega, by rw [h1]; omega, by unfold findF at h2; simpa using h2⟩
theorem fieldI (fs : Flds) (hf : fs.length ≤ 40) (hs : smallF fs) (B : ByteArray) (nm : Bytes) (hn : nm.length ≤ 100) : impl_Mail_field.f (flS fs) B (bs nm) = some (match findF fs nm with | none => ((⟨#[]⟩ : ByteArray), false, B) | some x => (bs x.2, true, B)) := by
  have hmx : (1000 : Nat) ≤ maxLen := by decide
  have hall : ((flS fs).all fun x => decide (x.f0.size ≤ maxLen)) = true := by
    rw [List.all_eq_true]
    intro y hy
    obtain ⟨x, hx, rfl⟩ := List.mem_map.mp hy
    have := hs x hx
    simp; omega
  unfold impl_Mail_field.f
  rw [if_pos ⟨by rw [flS_len]; omega, hall, by rw [bs_size]; omega⟩]
  rcases idxF_find nm fs 0 (by omega) with ⟨h1, h2⟩ | ⟨k, hk, h1, h2⟩
  · rw [h1, if_pos (by omega), h2]
  · rw [h1, if_neg (by omega), h2, Int.zero_add, rdFl fs k hk]
theorem valueI (fs : Flds) (hf : fs.length ≤ 40) (hs : smallF fs) (B : ByteArray) (nm : Bytes) (hn : nm.length ≤ 100) : impl_valueOf.f (flS fs) B (bs nm) = some (bs (valF2 fs nm)) := by
  unfold impl_valueOf.f valF2
  rw [fieldI fs hf hs B nm hn]
  cases findF fs nm <;> rfl
theorem val_len (fs : Flds) (hs : smallF fs) (nm : Bytes) : (valF2 fs nm).length ≤ 2000 := by
  unfold valF2
  cases h : findF fs nm with
  | none => simp
  | some x => exact (hs x (List.mem_of_find?_eq_some h)).2
/-! A mail's overview, both ways. -/
def nmS : Bytes := [83, 117, 98, 106, 101, 99, 116]
def nmF : Bytes := [70, 114, 111, 109]
def nmD : Bytes := [68, 97, 116, 101]
def nmM : Bytes := [77, 101, 115, 115, 97, 103, 101, 45, 73, 68]
def overB (u : Nat) (fs : Flds) (n c : Nat) : Bytes :=
  Lib.decDigits u ++ ([9] ++ valF2 fs nmS) ++ ([9] ++ valF2 fs nmF) ++ ([9] ++ valF2 fs nmD) ++ ([9] ++ valF2 fs nmM) ++ [9, 9] ++ Lib.decDigits n ++ [9] ++ Lib.decDigits c
theorem overS_l1 (b out : Bytes) (hb : b.length ≤ 1048576) (ho : out.length ≤ 100000) (u fl : Int) (t : Bytes) (ht : t.length ≤ 1048576) (F : List S50) : ∀ (m i : Nat), i + m = b.length →
    Ev (fun k => spec_l14Over.l1 k (bs out) (((b.take i).count 10 : Nat) : Int) i u fl (bs t) F (bs b)) (bs (out ++ [9, 9] ++ Lib.decDigits t.length ++ [9] ++ Lib.decDigits (b.count 10))) := by
  intro m
  induction m with
  | zero =>
    intro i hi
    have hcb : b.count 10 ≤ b.length := List.count_le_length
    have d1 := digits_len t.length (by omega)
    have d2 := digits_len (b.count 10) (by omega)
    rw [List.take_of_length_le (by omega)]
    have q1 : bs out ++ (⟨#[9, 9]⟩ : ByteArray) = bs (out ++ [9, 9]) := bs_append out [9, 9]
    have q3 : bs (out ++ [9, 9] ++ Lib.decDigits t.length) ++ (⟨#[9]⟩ : ByteArray) = bs (out ++ [9, 9] ++ Lib.decDigits t.length ++ [9]) := bs_append _ [9]
    refine Ev.step (fun _ => spec_l14Over.l1.eq_2 ..) (ev_neg (by rw [bs_size]; omega) (ev_pos (by rw [bs_size]; omega) ?_))
    rw [bs_size t]
    refine Ev.bind (digits_ev t.length (by omega)) ?_
    rw [q1, bs_append, q3]
    refine ev_pos (by rw [bs_size, bs_size]; simp; omega) (ev_pos (by rw [bs_size]; simp; omega) (Ev.bind (digits_ev _ (by omega)) (ev_pos (by rw [bs_size, bs_size]; simp; omega) (ev_some ?_))))
    rw [bs_append]
  | succ m ih =>
    intro i hi
    have hlt : i < b.length := by omega
    have hcb : (b.take i).count 10 ≤ i := Nat.le_trans List.count_le_length (by simp; omega)
    have e10 : (b[i]).toNat = 10 ↔ b[i] = 10 := by rw [← UInt8.toNat_inj]; rfl
    refine Ev.step (fun _ => spec_l14Over.l1.eq_2 ..) (ev_pos (by rw [bs_size]; omega) (ev_pos (by omega) ?_))
    rw [bt_bs b i hlt, w64n (k := i) (by omega)]
    have hc : (b.take (i + 1)).count 10 = (b.take i).count 10 + if b[i] = 10 then 1 else 0 := by
      rw [List.take_succ_eq_append_getElem hlt, List.count_append, List.count_singleton]; simp
    have hI := ih (i + 1) (by omega)
    rw [hc] at hI
    by_cases h : (b[i]).toNat = 10
    · rw [show (((b[i]).toNat : Int) == 10) = true from by simp; omega]
      rw [if_pos (e10.mp h)] at hI
      refine ev_bindc (a := 1) (by unfold spec_l01Bit.f; rw [if_pos rfl]) ?_
      rw [w64n (by omega)]; exact hI
    · rw [show (((b[i]).toNat : Int) == 10) = false from by simp; omega]
      rw [if_neg (fun x => h (e10.mpr x)), Nat.add_zero] at hI
      refine ev_bindc (a := 0) (by unfold spec_l01Bit.f; rw [if_neg (by simp)]) ?_
      rw [w64 (by omega) (by omega), Int.add_zero]; exact hI
theorem overS_step (fs : Flds) (hf : fs.length ≤ 40) (hs : smallF fs) (u fl : Int) (t : ByteArray) (B : ByteArray) (N : List ByteArray) (hN : N.length = 4) (out nm : Bytes) (ho : out.length ≤ 50000) (i : Nat) (hi : i < 4) (hnm : N[i] = bs nm) (hn : nm.length ≤ 100) (r : ByteArray)
    (H : Ev (fun k => spec_l14Over.l0 k (bs (out ++ ([9] ++ valF2 fs nm))) N ((i + 1 : Nat) : Int) u fl t (flS fs) B) r) : Ev (fun k => spec_l14Over.l0 k (bs out) N (i : Int) u fl t (flS fs) B) r := by
  refine Ev.step (fun _ => spec_l14Over.l0.eq_2 ..) (ev_pos (by omega) (ev_pos (by omega) (ev_pos (by omega) ?_)))
  rw [rdOf_nat _ N i (by omega), hnm, w64n (by omega)]
  refine Ev.bind (fieldS_ev fs hf hs B nm hn) ?_
  have e : (match findF fs nm with | none => ((⟨#[]⟩ : ByteArray), false) | some x => (bs x.2, true)).1 = bs (valF2 fs nm) := by unfold valF2; cases findF fs nm <;> rfl
  rw [e]
  have hv := val_len fs hs nm
  have q : (⟨#[9]⟩ : ByteArray) ++ bs (valF2 fs nm) = bs ([9] ++ valF2 fs nm) := bs_append [9] _
  rw [q, bs_append]
  exact ev_pos (by rw [bs_size]; omega) (ev_pos (by rw [bs_size, bs_size]; simp; omega) H)
theorem overS_ev (u : Nat) (hu : u ≤ 1000) (fl : Int) (t : Bytes) (ht : t.length ≤ 1048576) (fs : Flds) (b : Bytes) (hp : parse (t.length + 1) t [] = some (fs, b)) (hb : b.length ≤ 1048576) : Ev (fun k => spec_l14Over.f k (u : Int) fl (bs t)) (bs (overB u fs t.length (b.count 10))) := by
  obtain ⟨hs, hf⟩ := parse_small _ _ _ _ (fun x hx => by cases hx) (by simp) hp
  obtain ⟨x, h1, h2⟩ := parS_ev t ht
  rw [hp] at h2
  have h2 : x = (flS fs, bs b, true) := h2
  subst h2
  have hd := digits_len u (by omega)
  have v1 := val_len fs hs nmS
  have v2 := val_len fs hs nmF
  have v3 := val_len fs hs nmD
  have v4 := val_len fs hs nmM
  unfold spec_l14Over.f
  refine Ev.bind h1 (Ev.bind (digits_ev u (by omega)) ?_)
  refine overS_step fs hf hs _ _ _ _ _ rfl _ nmS (by omega) 0 (by omega) rfl (by decide) _ ?_
  refine overS_step fs hf hs _ _ _ _ _ rfl _ nmF (by simp; omega) 1 (by omega) rfl (by decide) _ ?_
  refine overS_step fs hf hs _ _ _ _ _ rfl _ nmD (by simp; omega) 2 (by omega) rfl (by decide) _ ?_
  refine overS_step fs hf hs _ _ _ _ _ rfl _ nmM (by simp; omega) 3 (by omega) rfl (by decide) _ ?_
  refine Ev.step (fun _ => spec_l14Over.l0.eq_2 ..) (ev_neg (by omega) ?_)
  have := overS_l1 b (Lib.decDigits u ++ ([9] ++ valF2 fs nmS) ++ ([9] ++ valF2 fs nmF) ++ ([9] ++ valF2 fs nmD) ++ ([9] ++ valF2 fs nmM)) hb (by simp; omega) u fl t ht (flS fs) b.length 0 (by omega)
  exact this
/-- The program's way, whatever the mail. -/
theorem overI_ev (u : Nat) (hu : u ≤ 1000) (t : Bytes) (ht : t.length ≤ 1048576) (fs : Flds) (hf : fs.length ≤ 40) (hs : smallF fs) (b : Bytes) (hb : b.length ≤ 1048576) (ok : Bool) (fl : Int) (hp : Ev (fun k => impl_parseMail.f k (bs t)) (flS fs, bs b, ok)) : Ev (fun k => impl_overLine.f k (u : Int) fl (bs t)) (bs (overB u fs t.length (Lib.count b CRLF)), ok) := by
  have hc : Lib.count b CRLF ≤ b.length + 1 := Lib.count_le b CRLF
  have d1 := digits_len u (by omega)
  have d2 := digits_len t.length (by omega)
  have d3 := digits_len (Lib.count b CRLF) (by omega)
  have v1 := val_len fs hs nmS
  have v2 := val_len fs hs nmF
  have v3 := val_len fs hs nmD
  have v4 := val_len fs hs nmM
  have hcnt : strings_Count.f (bs b) (⟨#[13, 10]⟩ : ByteArray) = some ((Lib.count b CRLF : Nat) : Int) := by
    unfold strings_Count.f; rw [if_pos ⟨by rw [bs_size]; omega, by decide⟩]; rfl
  unfold impl_overLine.f
  refine Ev.bind hp (ev_bindc hcnt (ev_bindc (itoaF u (by omega)) (ev_bindc (valueI fs hf hs (bs b) nmS (by decide)) (ev_bindc (valueI fs hf hs (bs b) nmF (by decide)) (ev_bindc (valueI fs hf hs (bs b) nmD (by decide)) (ev_bindc (valueI fs hf hs (bs b) nmM (by decide)) ?_))))))
  rw [bs_size]
  refine ev_bindc (itoaF t.length (by omega)) (ev_bindc (itoaF _ (by omega)) (ev_bindc (a := bs (overB u fs t.length (Lib.count b CRLF))) ?_ (ev_some rfl)))
  have e : Lib.join ([bs (Lib.decDigits u), bs (valF2 fs nmS), bs (valF2 fs nmF), bs (valF2 fs nmD), bs (valF2 fs nmM), (⟨#[]⟩ : ByteArray), bs (Lib.decDigits t.length), bs (Lib.decDigits (Lib.count b CRLF))].map (·.data.toList)) (⟨#[9]⟩ : ByteArray).data.toList = overB u fs t.length (Lib.count b CRLF) := by
    show Lib.join [Lib.decDigits u, valF2 fs nmS, valF2 fs nmF, valF2 fs nmD, valF2 fs nmM, [], Lib.decDigits t.length, Lib.decDigits (Lib.count b CRLF)] [9] = _
    simp [Lib.join, List.intercalate, overB]
  unfold strings_Join.f
  rw [e, if_pos ⟨by simp, by simp, by unfold overB; simp; omega⟩]
theorem over_both (a fl : Int) (t : Bytes) (ht : t.length ≤ 1048576) : ∃ r, Ev (fun k => spec_OverLine.f k a fl (bs t)) r ∧ Ev (fun k => impl_OverLine.f k a fl (bs t)) r := by
  unfold spec_OverLine.f impl_OverLine.f
  cases hin : inB a 1 1000 with
  | false => exact ⟨((⟨#[]⟩ : ByteArray), 1), ev_bindc (l01In_f _ _ _) (ev_neg (by rw [hin]; simp) (ev_some rfl)), ev_bindc (within_f _ _ _) (ev_neg (by rw [hin]; simp) (ev_some rfl))⟩
  | true =>
    have hr := inB_true.mp hin
    obtain ⟨u, rfl⟩ : ∃ u : Nat, a = u := ⟨a.toNat, by omega⟩
    obtain ⟨x, hx1, hx2⟩ := parS_ev t ht
    have hI := parI_ev t ht
    have bad : ∀ (fs : Flds) (b : Bytes), fs.length ≤ 40 → smallF fs → b.length ≤ 1048576 → Ev (fun k => impl_parseMail.f k (bs t)) (flS fs, bs b, false) →
        (Ev (fun k => spec_l07Whole.f k (bs t)) (([] : List S50), (⟨#[]⟩ : ByteArray), false)) → ∃ r : ByteArray × Int, Ev (fun k => (spec_l01In.f (u : Int) 1 1000).bind fun t167 => (if t167 = true then ((spec_l07Whole.f k (bs t)).bind fun bt168 => (if bt168.2.2 = true then ((spec_l14Over.f k (u : Int) fl (bs t)).bind fun t174 => (some (t174, 0))) else (some ((⟨#[]⟩ : ByteArray), 3)))) else (some ((⟨#[]⟩ : ByteArray), 1)))) r ∧
          Ev (fun k => (impl_within.f (u : Int) 1 1000).bind fun t255 => (if t255 = true then ((impl_overLine.f k (u : Int) fl (bs t)).bind fun bt256 => (if bt256.2 = true then (some (bt256.1, 0)) else (some ((⟨#[]⟩ : ByteArray), 3)))) else (some ((⟨#[]⟩ : ByteArray), 1)))) r := by
      intro fs b h1 h2 h3 h4 h5
      refine ⟨((⟨#[]⟩ : ByteArray), 3), ev_bindc (l01In_f _ _ _) (ev_pos hin (Ev.bind h5 (ev_neg (by simp) (ev_some rfl)))), ev_bindc (within_f _ _ _) (ev_pos hin (Ev.bind (overI_ev u (by omega) t ht fs h1 h2 b h3 false fl h4) (ev_neg (by simp) (ev_some rfl))))⟩
    cases hm : mailB t with
    | false =>
      rw [hm] at hI
      have hI := ev_to (if_neg (by simp)) hI
      refine bad [] [] (by simp) (fun x hx => by cases hx) (by simp) hI ?_
      unfold spec_l07Whole.f
      refine Ev.bind hx1 ?_
      by_cases hq : x.2.2 = true
      · exact ev_pos hq (Ev.bind (mailS_ok t ht) (ev_neg (by rw [hm]; simp) (ev_some rfl)))
      · exact ev_neg hq (ev_some rfl)
    | true =>
      rw [hm] at hI
      have hI := ev_to (if_pos rfl) hI
      cases hp : parse (t.length + 1) t [] with
      | none =>
        rw [hp] at hI hx2
        refine bad [] [] (by simp) (fun x hx => by cases hx) (by simp) hI ?_
        unfold spec_l07Whole.f
        exact Ev.bind hx1 (ev_neg (by rw [show x.2.2 = false from hx2]; simp) (ev_some rfl))
      | some q =>
        obtain ⟨fs, b⟩ := q
        rw [hp] at hI hx2
        have hx3 : x = (flS fs, bs b, true) := hx2
        subst hx3
        obtain ⟨hs, hf⟩ := parse_small _ _ _ _ (fun x hx => by cases hx) (by simp) hp
        obtain ⟨z, hz⟩ := parse_body _ _ _ _ hp
        have hb : b.length ≤ 1048576 := by have := congrArg List.length hz; simp at this; omega
        have hm0 : mOK 0 b = true := by
          unfold mailB at hm
          rw [Bool.and_eq_true] at hm
          have h2 := hm.2
          rw [hz] at h2
          exact mOK_tail b z.length z 0 (Nat.le_refl _) h2
        have h7 : Ev (fun k => spec_l07Whole.f k (bs t)) (flS fs, bs b, true) := by
          unfold spec_l07Whole.f
          exact Ev.bind hx1 (ev_pos rfl (Ev.bind (mailS_ok t ht) (ev_pos hm (ev_some rfl))))
        have h3 := overI_ev u (by omega) t ht fs hf hs b hb true fl hI
        rw [count_lines _ b (Nat.le_refl _) hm0] at h3
        exact ⟨(bs (overB u fs t.length (b.count 10)), 0), ev_bindc (l01In_f _ _ _) (ev_pos hin (Ev.bind h7 (ev_pos rfl (Ev.bind (overS_ev u (by omega) fl t ht fs b hp hb) (ev_some rfl))))), ev_bindc (within_f _ _ _) (ev_pos hin (Ev.bind h3 (ev_pos rfl (ev_some rfl))))⟩
/-- The law's answer: true. -/
theorem law_true (a fl : Int) (t : ByteArray) (ht : t.size ≤ maxLen) : Ev (fun k => laws_FnExactOverLine.f k a fl t) true := by
  have hmx : maxLen = 9223372036854775807 := by decide
  unfold laws_FnExactOverLine.f laws_szStored.f
  have e : wrap64 (1048576 - (t.size : Int)) = 1048576 - (t.size : Int) := w64 (by omega) (by omega)
  rw [e]
  by_cases h : (1048576 - (t.size : Int)) < 0
  · refine ev_bindc (a := -1) (if_pos h) (ev_pos (by omega) (ev_some rfl))
  · refine ev_bindc (a := 1048576 - (t.size : Int)) (if_neg h) (ev_neg h ?_)
    obtain ⟨l, rfl⟩ := bs_ex t
    rw [bs_size] at h ht
    obtain ⟨r, r1, r2⟩ := over_both a fl l (by omega)
    exact ev_bindc (a := (a, fl, bs l)) rfl (Ev.bind r1 (ev_bindc (a := (a, fl, bs l)) rfl (Ev.bind r2 (ev_pos rfl (ev_pos rfl (ev_some rfl))))))
end Go.Proofs.YtifkmkiljpeaaabDoor.PFnExactOverLine
