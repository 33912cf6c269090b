import Derived.Test.YtifkmkiljpeaaacGreatLWorN
import Derived.Test.YtifkmkiljpeaaacGreatOwnC
import Derived.Test.YtifkmkiljpeaaacGreatRows
set_option linter.unusedVariables false
set_option linter.unusedSimpArgs false
set_option maxHeartbeats 8000000
set_option maxRecDepth 100000
namespace Go.Proofs.YtifkmkiljpeaaacGreat
open Go.ChangeShapes Go.WideShapes Go.ChangeAt Go.RowKit Go.Proofs.YtifkmkiljpeaaacGreatW.PrintWords
section
variable {H : Type} {enc : TypeId × Value → H} {W : World}
theorem opens_stored : Opens enc Tryz.prog W PFnExactWorldOK.k152 152 (fun x => x.f2.size ≤ maxLen) :=
  (opens_iso (opens_struct Tryz.underlying152 (by kernel_rfl) (opensF_cons (opens_int Tryz.underlying3 (by kernel_rfl)) rfl (opensF_cons (opens_int Tryz.underlying3 (by kernel_rfl)) rfl
    (opensF_one (opens_string Tryz.underlying9 (by kernel_rfl)) rfl)))) (fun y => ⟨y.1, y.2.1, y.2.2⟩) (fun _ => rfl)).weaken fun x h => h.2.2
theorem opens_box : Opens enc Tryz.prog W PFnExactWorldOK.k91 91 PFnExactWorldOK.InB :=
  (opens_iso (opens_struct Tryz.underlying91 (by kernel_rfl) (opensF_cons (opens_string Tryz.underlying9 (by kernel_rfl)) rfl (opensF_cons (opens_int Tryz.underlying3 (by kernel_rfl)) rfl (opensF_cons (opens_int Tryz.underlying3 (by kernel_rfl)) rfl
    (opensF_cons (opens_slice Tryz.underlying89 (by kernel_rfl) opens_stored 152) rfl (opensF_one (opens_slice Tryz.underlying69 (by kernel_rfl) (opens_string Tryz.underlying9 (by kernel_rfl)) 9) rfl)))))) (fun y => ⟨y.1, y.2.1, y.2.2.1, y.2.2.2.1, y.2.2.2.2⟩) (fun _ => rfl)).weaken fun x h => ⟨h.1, h.2.2.2.1.1, h.2.2.2.1.2, h.2.2.2.2.1, h.2.2.2.2.2⟩
theorem opens_imap : Opens enc Tryz.prog W PFnExactWorldOK.k63 63 (fun x => x.f1.size ≤ maxLen ∧ x.f3.length ≤ maxLen) :=
  (opens_iso (opens_struct Tryz.underlying63 (by kernel_rfl) (opensF_cons (opens_int Tryz.underlying3 (by kernel_rfl)) rfl (opensF_cons (opens_string Tryz.underlying9 (by kernel_rfl)) rfl (opensF_cons (opens_bool Tryz.underlying4 (by kernel_rfl)) rfl
    (opensF_one (opens_slice Tryz.underlying46 (by kernel_rfl) (opens_int Tryz.underlying3 (by kernel_rfl)) 3) rfl))))) (fun y => ⟨y.1, y.2.1, y.2.2.1, y.2.2.2⟩) (fun _ => rfl)).weaken fun x h => ⟨h.2.1, h.2.2.2.1⟩
theorem opens_nntp : Opens enc Tryz.prog W PFnExactWorldOK.k64 64 (fun x => x.f0.size ≤ maxLen) :=
  (opens_iso (opens_struct Tryz.underlying64 (by kernel_rfl) (opensF_cons (opens_string Tryz.underlying9 (by kernel_rfl)) rfl (opensF_cons (opens_int Tryz.underlying3 (by kernel_rfl)) rfl
    (opensF_one (opens_bool Tryz.underlying4 (by kernel_rfl)) rfl)))) (fun y => ⟨y.1, y.2.1, y.2.2⟩) (fun _ => rfl)).weaken fun x h => h.1
theorem opens_conn : Opens enc Tryz.prog W PFnExactWorldOK.k66 66 PFnExactWorldOK.InC :=
  (opens_iso (opens_struct Tryz.underlying66 (by kernel_rfl) (opensF_cons (opens_int Tryz.underlying3 (by kernel_rfl)) rfl (opensF_cons (opens_string Tryz.underlying9 (by kernel_rfl)) rfl (opensF_cons opens_imap rfl
    (opensF_one opens_nntp rfl))))) (fun y => ⟨y.1, y.2.1, y.2.2.1, y.2.2.2⟩) (fun _ => rfl)).weaken fun x h => ⟨h.2.1, h.2.2.1.1, h.2.2.1.2, h.2.2.2⟩
theorem open_world {cs : Array Value} {d : DataW H} {p : List MemPlace} (h : DataW.Trod enc Tryz.prog W 0 (fun _ => true) true 29 (.agg cs) d p) :
    ∃ (room : Int) (t : ByteArray) (sure : Int) (A : Option Addr) (c : Nat) (l : List PFnExactWorldOK.S91) (A' : Option Addr) (c' : Nat) (l' : List PFnExactWorldOK.S66), cs = #[.int .i64 room, .string t, .int .i64 sure, .slice A l.length c, .slice A' l'.length c'] ∧
      Kd.C PFnExactWorldOK.k91 W A l.length l ∧ l.length ≤ c ∧ Kd.C PFnExactWorldOK.k66 W A' l'.length l' ∧ l'.length ≤ c' ∧ t.size ≤ maxLen ∧ l.length ≤ maxLen ∧ (∀ b ∈ l, PFnExactWorldOK.InB b) ∧ l'.length ≤ maxLen ∧ ∀ c ∈ l', PFnExactWorldOK.InC c := by
  have hE := opens_struct (enc := enc) (W := W) Tryz.underlying26 (by kernel_rfl) (opensF_cons (opens_struct Tryz.underlying23 (by kernel_rfl) (opensF_cons (opens_int Tryz.underlying3 (by kernel_rfl)) rfl (opensF_cons (opens_string Tryz.underlying9 (by kernel_rfl)) rfl (opensF_one (opens_int Tryz.underlying3 (by kernel_rfl)) rfl)))) rfl
    (opensF_one (opens_slice Tryz.underlying24 (by kernel_rfl) opens_box 0) rfl))
  have hO := opens_struct (enc := enc) (W := W) Tryz.underlying29 (by kernel_rfl) (opensF_cons hE rfl (opensF_one (opens_slice Tryz.underlying27 (by kernel_rfl) opens_conn 0) rfl))
  obtain ⟨⟨⟨⟨room, t, sure⟩, l⟩, l'⟩, hK, ⟨⟨-, h1, -⟩, h2, h3⟩, h4, h5⟩ := hO.at h
  obtain ⟨_, _, he, ⟨_, _, rfl, ⟨_, _, rfl, rfl, _, _, rfl, rfl, rfl⟩, ⟨A, c, rfl, hc, hC⟩⟩, ⟨A', c', rfl, hc', hC'⟩⟩ := hK
  refine ⟨room, t, sure, A, c, l, A', c', l', ?_, hC, hc, hC', hc', h1, h2, h3, h4, h5⟩
  cases cs; simpa [Value.cells] using he
end
theorem own_fnExactWorldOK : ownKnob Tryz.prog.godebug = none := by kernel_rfl
theorem laidOut_fnExactWorldOK : laidOutB Tryz.prog = true := by kernel_rfl
set_option maxRecDepth 100000 in
theorem lifted_fnExactWorldOK (os : Os) (started : os.Started) (H : Type) (enc : TypeId × Value → H) :
    ReturnsInHanded {} Tryz.checked os 3 .any (Rows.fnExactWorldOKSpec.pre6 enc Tryz.prog Tryz.f3 Rows.fnExactWorldOKRow.domain false) (Rows.fnExactWorldOKSpec.post enc Tryz.prog Tryz.f3 false true false false) := by
  refine returnsInHanded_of_change_shaped (C := Tryz.checked) own_fnExactWorldOK started (by kernel_rfl) Tryz.func3
    (ChangeSpec.witness6 (enc := enc) (C := Tryz.checked) false ⟨#[], #[.agg #[.int .i64 0, .string ⟨#[]⟩, .int .i64 0, .slice none 0 0, .slice none 0 0]], []⟩ 8 (by kernel_rfl) (by kernel_rfl) (by kernel_rfl) (by kernel_rfl)) ?_
  intro W base args ds gs before hval0 hW hcnd hreach hsh _
  have hval : ∀ (j : Nat) t v, Tryz.f3.params[j]? = some t → args[j]? = some v → Value.okWide Tryz.prog W .any base t v := hval0
  have hW' := hW
  obtain ⟨p, q, hA0, hV, rfl, hfz, hnd⟩ := hW
  have hA : DataW.TrodAll enc Tryz.prog W 0 (fun _ => true) true Tryz.f3.params.toList args.toList ds p := hA0
  rw [Tryz.params3] at hA hval
  obtain ⟨v0, vs0, d0, ds0, p0, q0, hargs, rfl, rfl, h0, r0⟩ := trodAll_cons hA
  obtain ⟨rfl, rfl, rfl⟩ := trodAll_nil r0
  obtain rfl : args = #[v0] := by cases args; simp_all
  obtain ⟨rfl, rfl⟩ := trodVars_none hV
  have k0 := h0
  have lt0 : ∀ x ∈ p0, x.block < W.heap.size := by obtain ⟨m, hm⟩ := k0; exact DataW.trod_lt m _ _ _ hm
  obtain ⟨cs, rfl, -⟩ := okWide_struct Tryz.underlying29 (hval 0 29 v0 rfl rfl)
  obtain ⟨room, t, sure, A, c, l, A', c', l', rfl, hC, hc, hC', hc', ht, hl, hs, hl', hs'⟩ := open_world h0
  obtain ⟨k, hk⟩ := (PFnExactWorldOK.law_true room t sure l l' ht hl hs hl' hs').rounds
  clear hA0 hval0
  refine (PFnExactWorldOK.laws_FnExactWorldOK.calls k room t sure A c l A' c' l' true W hC hc hC' hc' hk).mono fun e W' ⟨he, bel⟩ => ?_
  subst he
  exact ⟨_, rfl, _, _, _, [], _, [], hW', trodAll_mk1 (shut_bool Tryz.underlying4 _), (trodAll_cons_mk (Below.trod laidOut_fnExactWorldOK (by kernel_rfl) (of_decide_eq_true (by kernel_rfl)) k0 bel lt0) trodAll_mk0), rfl, bel.frame _, fun h => by cases h⟩

/-- THE STATEMENT. -/
theorem proved_fnExactWorldOK : Rows.FnExactWorldOKSaid :=
  OpenClaim.holds_of_wide 3 Tryz.f3 rfl rfl rfl rfl rfl rfl rfl ⟨rfl, rfl, rfl, rfl, rfl⟩ rfl rfl rfl rfl rfl (by kernel_rfl) Tryz.func3 (by kernel_rfl)
    (of_decide_eq_true (by kernel_rfl)) (by unfold Func.isWrapper; first | (rw [if_pos (by decide +kernel)]; kernel_rfl) | (rw [if_neg (by decide +kernel)]; exact ⟨rfl, rfl⟩))
    (fun os started H enc _ => lifted_fnExactWorldOK os started H enc)
#print axioms proved_fnExactWorldOK
end Go.Proofs.YtifkmkiljpeaaacGreat
