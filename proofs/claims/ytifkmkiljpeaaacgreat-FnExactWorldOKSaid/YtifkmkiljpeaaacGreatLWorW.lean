import Derived.Test.YtifkmkiljpeaaacGreatLWorL
import Derived.Test.YtifkmkiljpeaaacGreatPFnExactWorldOKxG
import Derived.Test.YtifkmkiljpeaaacGreatPFnExactWorldOKxH
set_option linter.unusedVariables false
set_option linter.unusedSimpArgs false
namespace Go.Proofs.YtifkmkiljpeaaacGreat.PFnExactWorldOK
open Go.RowKit Go.Proofs.YtifkmkiljpeaaacGreatW.PrintWords
theorem rdI (l : List Int) (i : Nat) (h : i < l.length) : rd l (i : Int) = l[i] := by
  unfold rd; simp [List.getD, List.getElem?_eq_getElem h]
def viewB : Int → List Int → Bool
  | _, [] => true
  | b, u :: r => inB u (b + 1) 1000 && viewB u r
theorem viewB_len : ∀ (l : List Int) (b : Int), viewB b l = true → l = [] ∨ b + l.length ≤ 1000
  | [], _, _ => .inl rfl
  | u :: r, b, h => by
    unfold viewB at h
    simp only [Bool.and_eq_true, inB_iff] at h
    rcases viewB_len r u h.2 with rfl | h2
    · exact .inr (by simp; omega)
    · exact .inr (by simp; omega)
theorem viewI_ev (l : List Int) (hl : l.length ≤ 1099511627776) : Ev (fun k => impl_viewOK.f k l) (viewB 0 l) := by
  have loop : ∀ (m i : Nat) (b : Int), i + m = l.length → 0 ≤ b → b ≤ 1000 → Ev (fun k => impl_viewOK.l0 k b l (l.length : Int) i) (viewB b (l.drop i)) := by
    intro m
    induction m with
    | zero => intro i b hi h0 h1; rw [List.drop_of_length_le (by omega)]; exact Ev.step (fun _ => impl_viewOK.l0.eq_2 ..) (ev_neg (by omega) (ev_some rfl))
    | succ m ih =>
      intro i b hi h0 h1
      have hlt : i < l.length := by omega
      refine Ev.step (fun _ => impl_viewOK.l0.eq_2 ..) (ev_pos (by omega) (ev_pos (by omega) (ev_pos (by omega) ?_)))
      rw [rdI l i hlt, w64n (by omega), w64 (x := b + 1) (by omega) (by omega), List.drop_eq_getElem_cons hlt, viewB]
      refine ev_bindc (within_f _ _ _) ?_
      cases hq : inB l[i] (b + 1) 1000 with
      | false => exact ev_neg (by simp) (ev_some rfl)
      | true =>
        have := inB_iff.mp hq
        rw [Bool.true_and]
        exact ev_pos rfl (ih (i + 1) l[i] (by omega) (by omega) (by omega))
  unfold impl_viewOK.f
  have := loop l.length 0 0 (by omega) (by omega) (by omega)
  rwa [List.drop_zero] at this
theorem viewS_ev (l : List Int) (hl : l.length ≤ 1099511627776) : Ev (fun k => spec_l13View.f k l) (viewB 0 l) := by
  unfold spec_l13View.f
  by_cases h4 : (l.length : Int) > 4096
  · refine ev_pos h4 (ev_some ?_)
    cases hv : viewB 0 l with
    | false => rfl
    | true =>
      rcases viewB_len l 0 hv with rfl | h
      · simp at h4
      · omega
  refine ev_neg h4 ?_
  have loop : ∀ (m i : Nat) (b : Int) (hi_ : i + m = l.length), 0 ≤ b → b ≤ 1000 → (∀ h : 0 < i, b = (l[i - 1]'(by omega))) → (i = 0 → b = 0) → Ev (fun k => spec_l13View.l0 k l i) (viewB b (l.drop i)) := by
    intro m
    induction m with
    | zero => intro i b hi h0 h1 _ _; rw [List.drop_of_length_le (by omega)]; exact Ev.step (fun _ => spec_l13View.l0.eq_2 ..) (ev_neg (by omega) (ev_some rfl))
    | succ m ih =>
      intro i b hi h0 h1 hp hz
      have hlt : i < l.length := by omega
      refine Ev.step (fun _ => spec_l13View.l0.eq_2 ..) (ev_pos (by omega) (ev_pos (by omega) ?_))
      rw [rdI l i hlt, w64n (by omega), List.drop_eq_getElem_cons hlt, viewB]
      refine ev_bindc (l01In_f _ _ _) ?_
      have nx := ih (i + 1) l[i] (by omega)
      cases hq : inB l[i] 1 1000 with
      | false =>
        have e : inB l[i] (b + 1) 1000 = false := by have := inB_no.mp hq; exact inB_no.mpr (by omega)
        rw [e]
        exact ev_neg (by simp) (ev_some rfl)
      | true =>
        have hq2 := inB_iff.mp hq
        refine ev_pos rfl ?_
        by_cases hi0 : 0 < i
        · have e1 : wrap64 ((i : Int) - 1) = ((i - 1 : Nat) : Int) := by rw [w64 (by omega) (by omega)]; omega
          rw [e1, rdI l (i - 1) (by omega), ← hp hi0]
          clear e1
          refine ev_pos (by omega) (ev_pos (by omega) (ev_pos (by omega) ?_))
          by_cases hge : b ≥ l[i]
          · have e : inB l[i] (b + 1) 1000 = false := inB_no.mpr (by omega)
            rw [e]
            exact ev_pos hge (ev_some rfl)
          · have e : inB l[i] (b + 1) 1000 = true := inB_iff.mpr (by omega)
            rw [e, Bool.true_and]
            exact ev_neg hge (nx (by omega) (by omega) (fun _ => rfl) (fun h => by omega))
        · have hb := hz (by omega)
          have e : inB l[i] (b + 1) 1000 = true := inB_iff.mpr (by omega)
          rw [e, Bool.true_and]
          exact ev_neg (by omega) (nx (by omega) (by omega) (fun _ => rfl) (fun h => by omega))
  have := loop l.length 0 0 (by omega) (by omega) (by omega) (fun h => by omega) (fun _ => rfl)
  rwa [List.drop_zero] at this
def noI (st : Int) (bx : ByteArray) (ro : Bool) (vw : List Int) : Bool := decide (st = 0) && (decide (bx.toList = []) && (!ro && decide (vw.length = 0)))
def openB (bx : ByteArray) (ro : Bool) (vw : List Int) : Bool := decide (bx.toList = []) && (!ro && decide (vw.length = 0))
def imapB (st : Int) (bx : ByteArray) (ro : Bool) (vw : List Int) : Bool := if st = 3 then nameB bx.data.toList && viewB 0 vw else inB st 0 2 && openB bx ro vw
theorem len0 (vw : List Int) : ((vw.length : Int) == 0) = decide (vw.length = 0) := by rw [Bool.eq_iff_iff]; simp
theorem open_tail (bx : ByteArray) (ro : Bool) (vw : List Int) : (if bx.toList = ([] : List UInt8) then (if ro = true then some false else some ((vw.length : Int) == 0)) else some false) = some (openB bx ro vw) := by
  unfold openB
  rw [len0]
  by_cases h : bx.toList = []
  · rw [if_pos h, decide_eq_true h]; cases ro <;> rfl
  · rw [if_neg h, decide_eq_false h]; rfl
theorem imapI_ev (st : Int) (bx : ByteArray) (ro : Bool) (vw : List Int) (hb : bx.size ≤ 1099511627776) (hv : vw.length ≤ 1099511627776) : Ev (fun k => impl_ImapOK.f k st bx ro vw) (imapB st bx ro vw) := by
  unfold impl_ImapOK.f
  by_cases h3 : st = 3
  · refine ev_pos h3 (ev_to (r := nameB bx.data.toList && viewB 0 vw) (by unfold imapB; rw [if_pos h3]) (Ev.bind (nameI_ev bx hb) ?_))
    cases nameB bx.data.toList with
    | false => exact ev_neg (by simp) (ev_some rfl)
    | true => exact ev_pos rfl (Ev.bind (viewI_ev vw hv) (ev_some rfl))
  · refine ev_neg h3 (ev_to (r := inB st 0 2 && openB bx ro vw) (by unfold imapB; rw [if_neg h3]) (ev_bindc (within_f _ _ _) ?_))
    cases inB st 0 2 with
    | false => exact ev_neg (by simp) (ev_some rfl)
    | true =>
      refine ev_pos rfl ?_
      rw [open_tail]; exact ev_some rfl
theorem imapS_ev (st : Int) (bx : ByteArray) (ro : Bool) (vw : List Int) (hb : bx.size ≤ 1099511627776) (hv : vw.length ≤ 1099511627776) : Ev (fun k => spec_ImapOK.f k st bx ro vw) (imapB st bx ro vw) := by
  have bad : Ev (fun k => spec_ImapOK.j0 k true st bx ro vw) false := Ev.step (fun _ => spec_ImapOK.j0.eq_2 ..) (ev_pos rfl (ev_some rfl))
  have good : ∀ r, Ev (fun k => if st = 3 then ((spec_NameOK.f k bx).bind fun t => (some t)) else some (openB bx ro vw)) r → Ev (fun k => spec_ImapOK.j0 k (!true) st bx ro vw) r := by
    intro r H
    refine Ev.step (fun _ => spec_ImapOK.j0.eq_2 ..) (ev_neg (by simp) ?_)
    rw [open_tail]; exact H
  unfold spec_ImapOK.f
  refine ev_bindc (l01In_f _ _ _) ?_
  cases h3 : inB st 0 3 with
  | false =>
    have := inB_no.mp h3
    refine ev_neg (by simp) (ev_to ?_ bad)
    unfold imapB
    rw [if_neg (by omega), inB_no.mpr (by omega)]; rfl
  | true =>
    have hi := inB_iff.mp h3
    refine ev_pos rfl (Ev.bind (viewS_ev vw hv) ?_)
    cases hw : viewB 0 vw with
    | false =>
      refine ev_to ?_ bad
      unfold imapB
      by_cases hs : st = 3
      · rw [if_pos hs, hw, Bool.and_false]
      · rw [if_neg hs]
        have : vw ≠ [] := by rintro rfl; simp [viewB] at hw
        unfold openB
        rw [decide_eq_false (fun h => this (List.eq_nil_of_length_eq_zero h))]; simp
    | true =>
      refine good _ ?_
      by_cases hs : st = 3
      · exact ev_pos hs (ev_to (by unfold imapB; rw [if_pos hs, hw, Bool.and_true]) (Ev.bind (nameS_ev bx hb) (ev_some rfl)))
      · exact ev_neg hs (ev_some (by unfold imapB; rw [if_neg hs, inB_iff.mpr (by omega), Bool.true_and]))
def nntpB (g : ByteArray) (n : Int) (o : Bool) : Bool := if o = true ∨ g.toList = [] then decide (g.toList = []) && (n == 0) else nameB g.data.toList && inB n 0 1000
theorem zero_tail (g : ByteArray) (n : Int) : (if g.toList = ([] : List UInt8) then some (n == 0) else some false) = some (decide (g.toList = []) && (n == 0)) := by
  by_cases h : g.toList = []
  · rw [if_pos h, decide_eq_true h]; rfl
  · rw [if_neg h, decide_eq_false h]; rfl
theorem nntpS_ev (g : ByteArray) (n : Int) (o : Bool) (hg : g.size ≤ 1099511627776) : Ev (fun k => spec_l14OK.f k g n o) (nntpB g n o) := by
  have yes : (o = true ∨ g.toList = []) → Ev (fun k => spec_l14OK.j0 k true g n o) (nntpB g n o) := by
    intro h
    refine Ev.step (fun _ => spec_l14OK.j0.eq_2 ..) (ev_pos rfl ?_)
    rw [zero_tail]
    exact ev_some (by unfold nntpB; rw [if_pos h])
  unfold spec_l14OK.f
  by_cases ho : o = true
  · exact ev_pos ho (yes (.inl ho))
  · refine ev_neg ho ?_
    by_cases he : g.toList = []
    · rw [beq_iff_eq.mpr he]; exact yes (.inr he)
    · rw [beq_eq_false_iff_ne.mpr he]
      refine Ev.step (fun _ => spec_l14OK.j0.eq_2 ..) (ev_neg (by simp) (ev_to (r := nameB g.data.toList && inB n 0 1000) (by unfold nntpB; rw [if_neg (by simp [ho, he])]) (Ev.bind (nameS_ev g hg) ?_)))
      cases nameB g.data.toList with
      | false => exact ev_neg (by simp) (ev_some rfl)
      | true => exact ev_pos rfl (ev_bindc (l01In_f _ _ _) (ev_some rfl))
theorem nntpI_ev (g : ByteArray) (n : Int) (o : Bool) (hg : g.size ≤ 1099511627776) : Ev (fun k => impl_nntpOK.f k g n o) (nntpB g n o) := by
  have yes : (o = true ∨ g.toList = []) → Ev (fun k => impl_nntpOK.j0 k true g n o) (nntpB g n o) := by
    intro h
    refine Ev.step (fun _ => impl_nntpOK.j0.eq_2 ..) (ev_pos rfl ?_)
    rw [zero_tail]
    exact ev_some (by unfold nntpB; rw [if_pos h])
  unfold impl_nntpOK.f
  by_cases he : g.toList = []
  · exact ev_pos he (yes (.inr he))
  · refine ev_neg he ?_
    cases ho : o with
    | true => rw [ho] at yes; exact yes (.inl rfl)
    | false =>
      refine Ev.step (fun _ => impl_nntpOK.j0.eq_2 ..) (ev_neg (by simp) (ev_to (r := nameB g.data.toList && inB n 0 1000) (by unfold nntpB; rw [if_neg (by simp [he])]) (Ev.bind (nameI_ev g hg) ?_)))
      cases nameB g.data.toList with
      | false => exact ev_neg (by simp) (ev_some rfl)
      | true => exact ev_pos rfl (ev_bindc (within_f _ _ _) (ev_some rfl))
def noN (g : ByteArray) (n : Int) (o : Bool) : Bool := g.toList == ([] : List UInt8) && (n == 0 && (!o))
def connB (bl : List S98) (kd : Int) (bf : ByteArray) (st : Int) (bx : ByteArray) (ro : Bool) (vw : List Int) (g : ByteArray) (n : Int) (o : Bool) : Bool :=
  if kd = 0 then decide (bf.toList = []) && (noI st bx ro vw && noN g n o)
  else if kd = 1 then decide ((bf.size : Int) ≤ 8000) && (imapB st bx ro vw && (!decide (st = 0) && (noN g n o && (!decide (st = 3) || decide (0 ≤ idxN bx bl 0)))))
  else if kd = 2 then decide ((bf.size : Int) ≤ 8000) && (nntpB g n o && (!o && noI st bx ro vw)) else false
theorem size_nil {t : ByteArray} (h : t.toList = []) : t.size = 0 := by
  rw [ByteArray.toList_eq] at h
  have : t.data.size = 0 := by rw [← Array.length_toList, h]; rfl
  exact this
theorem noI_tail (st : Int) (bx : ByteArray) (ro : Bool) (vw : List Int) : (if st = 0 then (if bx.toList = ([] : List UInt8) then (if ro = true then some false else some ((vw.length : Int) == 0)) else some false) else some false) = some (noI st bx ro vw) := by
  rw [open_tail]
  unfold noI openB
  by_cases h : st = 0
  · rw [if_pos h, decide_eq_true h, Bool.true_and]
  · rw [if_neg h, decide_eq_false h]; rfl
theorem connS_ev (bl : List S98) (kd : Int) (bf : ByteArray) (st : Int) (bx : ByteArray) (ro : Bool) (vw : List Int) (g : ByteArray) (n : Int) (o : Bool) (hl : bl.length ≤ 1048576) (hb : bx.size ≤ 1099511627776) (hv : vw.length ≤ 1099511627776) (hg : g.size ≤ 1099511627776) :
    Ev (fun k => spec_l15Conn.f k kd bf st bx ro vw g n o bl) (connB bl kd bf st bx ro vw g n o) := by
  unfold spec_l15Conn.f
  by_cases h0 : kd = 0
  · refine ev_pos h0 (ev_to (r := decide (bf.toList = []) && (noI st bx ro vw && noN g n o)) (by unfold connB; rw [if_pos h0]) ?_)
    by_cases hf : bf.toList = []
    · rw [decide_eq_true hf, Bool.true_and]
      refine ev_pos hf ?_
      unfold noI
      by_cases a1 : st = 0
      · refine ev_pos a1 ?_
        by_cases a2 : bx.toList = []
        · refine ev_pos a2 ?_
          cases ro with
          | true => exact ev_pos rfl (ev_some (by simp))
          | false =>
            refine ev_neg (by simp) ?_
            by_cases a3 : vw.length = 0
            · exact ev_pos (by omega) (ev_some (by rw [decide_eq_true a1, decide_eq_true a2, decide_eq_true a3]; rfl))
            · exact ev_neg (by omega) (ev_some (by rw [decide_eq_false a3]; simp))
        · exact ev_neg a2 (ev_some (by rw [decide_eq_false a2]; simp))
      · exact ev_neg a1 (ev_some (by rw [decide_eq_false a1]; simp))
    · rw [decide_eq_false hf, Bool.false_and]
      exact ev_neg hf (ev_some rfl)
  · refine ev_neg h0 ?_
    by_cases h1 : kd = 1
    · refine ev_pos h1 (ev_to (r := decide ((bf.size : Int) ≤ 8000) && (imapB st bx ro vw && (!decide (st = 0) && (noN g n o && (!decide (st = 3) || decide (0 ≤ idxN bx bl 0)))))) (by unfold connB; rw [if_neg h0, if_pos h1]) ?_)
      by_cases hf : (bf.size : Int) ≤ 8000
      · rw [decide_eq_true hf, Bool.true_and]
        refine ev_pos hf (Ev.bind (imapS_ev st bx ro vw hb hv) ?_)
        cases imapB st bx ro vw with
        | false => exact ev_neg (by simp) (ev_some rfl)
        | true =>
          refine ev_pos rfl ?_
          by_cases a1 : st = 0
          · exact ev_pos a1 (ev_some (by rw [decide_eq_true a1]; rfl))
          · refine ev_neg a1 ?_
            rw [decide_eq_false a1]
            show Ev (fun k => if noN g n o = true then _ else _) _
            cases noN g n o with
            | false => exact ev_neg (by simp) (ev_some rfl)
            | true =>
              refine ev_pos rfl ?_
              by_cases a3 : st = 3
              · have hF := findS_take bl hl bl.length bx
                rw [List.take_length] at hF
                exact ev_pos a3 (Ev.bind hF (ev_some (by rw [decide_eq_true a3]; simp)))
              · exact ev_neg a3 (ev_some (by rw [decide_eq_false a3]; rfl))
      · rw [decide_eq_false hf, Bool.false_and]
        exact ev_neg hf (ev_some rfl)
    · refine ev_neg h1 ?_
      by_cases h2 : kd = 2
      · refine ev_pos h2 (ev_to (r := decide ((bf.size : Int) ≤ 8000) && (nntpB g n o && (!o && noI st bx ro vw))) (by unfold connB; rw [if_neg h0, if_neg h1, if_pos h2]) ?_)
        by_cases hf : (bf.size : Int) ≤ 8000
        · rw [decide_eq_true hf, Bool.true_and]
          refine ev_pos hf (Ev.bind (nntpS_ev g n o hg) ?_)
          cases nntpB g n o with
          | false => exact ev_neg (by simp) (ev_some rfl)
          | true =>
            refine ev_pos rfl ?_
            rw [noI_tail]
            cases o with
            | true => exact ev_pos rfl (ev_some rfl)
            | false => exact ev_neg (by simp) (ev_some rfl)
        · rw [decide_eq_false hf, Bool.false_and]
          exact ev_neg hf (ev_some rfl)
      · exact ev_neg h2 (ev_some (by unfold connB; rw [if_neg h0, if_neg h1, if_neg h2]))
theorem sameI_ev (st : Int) (bx : ByteArray) (ro : Bool) (vw : List Int) : Ev (fun k => impl_sameImap.f k st bx ro vw 0 (⟨#[]⟩ : ByteArray) false []) (noI st bx ro vw) := by
  have e0 : (⟨#[]⟩ : ByteArray).toList = [] := by rw [ByteArray.toList_eq]
  unfold impl_sameImap.f noI
  rw [e0]
  by_cases a1 : st = 0
  · refine ev_pos a1 ?_
    rw [decide_eq_true a1]
    by_cases a2 : bx.toList = []
    · refine ev_pos a2 ?_
      rw [decide_eq_true a2]
      cases ro with
      | true => exact ev_neg (by simp) (ev_some rfl)
      | false =>
        refine ev_pos rfl (Ev.bind (a := decide (vw.length = 0)) ?_ (ev_some rfl))
        unfold slices_Equal_int_int.f
        by_cases a3 : vw.length = 0
        · rw [decide_eq_true a3]
          refine ev_pos (by simp [a3]) (Ev.step (fun _ => slices_Equal_int_int.l0.eq_2 ..) (ev_neg (by omega) (ev_some rfl)))
        · rw [decide_eq_false a3]
          exact ev_neg (fun h => a3 (by simpa using h)) (ev_some rfl)
    · rw [decide_eq_false a2]
      exact ev_neg a2 (ev_some rfl)
  · rw [decide_eq_false a1]
    exact ev_neg a1 (ev_some rfl)
theorem connI_ev (bl : List S98) (kd : Int) (bf : ByteArray) (st : Int) (bx : ByteArray) (ro : Bool) (vw : List Int) (g : ByteArray) (n : Int) (o : Bool) (hl : bl.length ≤ 1048576) (hb : bx.size ≤ 1099511627776) (hv : vw.length ≤ 1099511627776) (hg : g.size ≤ 1099511627776) :
    Ev (fun k => impl_connOK.f k bl kd bf st bx ro vw g n o) (connB bl kd bf st bx ro vw g n o) := by
  unfold impl_connOK.f
  by_cases hf : (bf.size : Int) > 8000
  · refine ev_pos hf (ev_some ?_)
    unfold connB
    by_cases h0 : kd = 0
    · rw [if_pos h0, decide_eq_false (fun h => by have := size_nil h; omega)]; rfl
    · rw [if_neg h0, decide_eq_false (by omega)]
      simp
  refine ev_neg hf ?_
  have hf8 : decide ((bf.size : Int) ≤ 8000) = true := decide_eq_true (by omega)
  by_cases h0 : kd = 0
  · refine ev_pos h0 (ev_to (r := decide (bf.toList = []) && (noI st bx ro vw && noN g n o)) (by unfold connB; rw [if_pos h0]) ?_)
    by_cases hz : bf.toList = []
    · rw [decide_eq_true hz, Bool.true_and]
      refine ev_pos hz (Ev.bind (sameI_ev st bx ro vw) ?_)
      cases noI st bx ro vw with
      | false => exact ev_neg (by simp) (ev_some rfl)
      | true => exact ev_pos rfl (ev_some rfl)
    · rw [decide_eq_false hz, Bool.false_and]
      exact ev_neg hz (ev_some rfl)
  · refine ev_neg h0 ?_
    by_cases h1 : kd = 1
    · refine ev_pos h1 (ev_to (r := imapB st bx ro vw && (!decide (st = 0) && (noN g n o && (!decide (st = 3) || decide (0 ≤ idxN bx bl 0))))) (by unfold connB; rw [if_neg h0, if_pos h1, hf8, Bool.true_and]) ?_)
      have hI : impl_boxIndex.f bl bx = some (idxN bx bl 0) := by unfold impl_boxIndex.f; rw [if_pos (by omega)]
      have hSE : Ev (fun k => impl_sessionOK.f k bl st bx ro vw) (imapB st bx ro vw && (!decide (st = 3) || decide (0 ≤ idxN bx bl 0))) := by
        unfold impl_sessionOK.f
        refine Ev.bind (imapI_ev st bx ro vw hb hv) ?_
        cases imapB st bx ro vw with
        | false => exact ev_neg (by simp) (ev_some rfl)
        | true =>
          refine ev_pos rfl ?_
          by_cases a3 : st = 3
          · exact ev_pos a3 (ev_bindc hI (ev_some (by rw [decide_eq_true a3]; simp)))
          · exact ev_neg a3 (ev_some (by rw [decide_eq_false a3]; rfl))
      refine Ev.bind hSE ?_
      show Ev (fun k => if (imapB st bx ro vw && (!decide (st = 3) || decide (0 ≤ idxN bx bl 0))) = true then (if st = 0 then some false else some (noN g n o)) else some false) _
      cases imapB st bx ro vw with
      | false => exact ev_neg (by simp) (ev_some rfl)
      | true =>
        by_cases a1 : st = 0
        · have a3 : ¬ st = 3 := by omega
          rw [decide_eq_false a3, decide_eq_true a1]
          exact ev_pos rfl (ev_pos a1 (ev_some rfl))
        · rw [decide_eq_false a1]
          cases hx : (!decide (st = 3) || decide (0 ≤ idxN bx bl 0)) with
          | false => exact ev_neg (by simp) (ev_some (by simp))
          | true => exact ev_pos rfl (ev_neg a1 (ev_some (by simp)))
    · refine ev_neg h1 ?_
      by_cases h2 : kd = 2
      · refine ev_pos h2 (ev_to (r := nntpB g n o && (!o && noI st bx ro vw)) (by unfold connB; rw [if_neg h0, if_neg h1, if_pos h2, hf8, Bool.true_and]) ?_)
        refine Ev.bind (nntpI_ev g n o hg) ?_
        cases nntpB g n o with
        | false => exact ev_neg (by simp) (ev_some rfl)
        | true =>
          refine ev_pos rfl ?_
          cases o with
          | true => exact ev_pos rfl (ev_some rfl)
          | false => exact ev_neg (by simp) (Ev.bind (sameI_ev st bx ro vw) (ev_some rfl))
      · exact ev_neg h2 (ev_some (by unfold connB; rw [if_neg h0, if_neg h1, if_neg h2]))
end Go.Proofs.YtifkmkiljpeaaacGreat.PFnExactWorldOK
