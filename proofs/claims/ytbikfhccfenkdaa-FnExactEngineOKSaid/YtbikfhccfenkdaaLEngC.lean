/- The statement FnExactEngineOK: the program's EngineOK returns what the reference's returns, for all arguments. -/
import Derived.Test.YtbikfhccfenkdaaLEngN
import Derived.Test.YtbikfhccfenkdaaOwnC
import Derived.Test.YtbikfhccfenkdaaRows
set_option linter.unusedVariables false
set_option linter.unusedSimpArgs false
set_option maxHeartbeats 8000000
set_option maxRecDepth 100000
namespace Go.Proofs.Ytbikfhccfenkdaa
open Go.ChangeShapes Go.WideShapes Go.ChangeAt Go.RowKit Go.Proofs.YtbikfhccfenkdaaW.PrintWords
section
variable {H : Type} {enc : TypeId × Value → H} {W : World}
theorem opens_stored : Opens enc Try.prog W PFnExactEngineOK.k106 106 (fun x => x.f2.size ≤ maxLen) :=
  (opens_iso (opens_struct Try.underlying106 (by kernel_rfl) (opensF_cons (opens_int Try.underlying3 (by kernel_rfl)) rfl (opensF_cons (opens_int Try.underlying3 (by kernel_rfl)) rfl
    (opensF_one (opens_string Try.underlying9 (by kernel_rfl)) rfl)))) (fun y => ⟨y.1, y.2.1, y.2.2⟩) (fun _ => rfl)).weaken fun x h => h.2.2
theorem opens_box : Opens enc Try.prog W PFnExactEngineOK.k54 54 PFnExactEngineOK.InB :=
  (opens_iso (opens_struct Try.underlying54 (by kernel_rfl) (opensF_cons (opens_string Try.underlying9 (by kernel_rfl)) rfl (opensF_cons (opens_int Try.underlying3 (by kernel_rfl)) rfl (opensF_cons (opens_int Try.underlying3 (by kernel_rfl)) rfl
    (opensF_cons (opens_slice Try.underlying52 (by kernel_rfl) opens_stored 106) rfl (opensF_one (opens_slice Try.underlying40 (by kernel_rfl) (opens_string Try.underlying9 (by kernel_rfl)) 9) rfl)))))) (fun y => ⟨y.1, y.2.1, y.2.2.1, y.2.2.2.1, y.2.2.2.2⟩) (fun _ => rfl)).weaken fun x h => ⟨h.1, h.2.2.2.1.1, h.2.2.2.1.2, h.2.2.2.2.1, h.2.2.2.2.2⟩
theorem open_engine {cs : Array Value} {d : DataW H} {p : List MemPlace} (h : DataW.Trod enc Try.prog W 0 (fun _ => true) true 26 (.agg cs) d p) :
    ∃ (room : Int) (t : ByteArray) (sure : Int) (A : Option Addr) (c : Nat) (l : List PFnExactEngineOK.S54), cs = #[.int .i64 room, .string t, .int .i64 sure, .slice A l.length c] ∧
      Kd.C PFnExactEngineOK.k54 W A l.length l ∧ l.length ≤ c ∧ t.size ≤ maxLen ∧ l.length ≤ maxLen ∧ ∀ b ∈ l, PFnExactEngineOK.InB b := by
  have hO := opens_struct (enc := enc) (W := W) Try.underlying26 (by kernel_rfl) (opensF_cons (opens_struct Try.underlying23 (by kernel_rfl) (opensF_cons (opens_int Try.underlying3 (by kernel_rfl)) rfl (opensF_cons (opens_string Try.underlying9 (by kernel_rfl)) rfl (opensF_one (opens_int Try.underlying3 (by kernel_rfl)) rfl)))) rfl
    (opensF_one (opens_slice Try.underlying24 (by kernel_rfl) opens_box 0) rfl))
  obtain ⟨⟨⟨room, t, sure⟩, l⟩, hK, ⟨-, h1, -⟩, h2, h3⟩ := hO.at h
  obtain ⟨_, _, he, ⟨_, _, rfl, rfl, _, _, rfl, rfl, rfl⟩, ⟨A, c, rfl, hc, hC⟩⟩ := hK
  refine ⟨room, t, sure, A, c, l, ?_, hC, hc, h1, h2, h3⟩
  cases cs; simpa [Value.cells] using he
end
theorem own_fnExactEngineOK : ownKnob Try.prog.godebug = none := by kernel_rfl
theorem laidOut_fnExactEngineOK : laidOutB Try.prog = true := by kernel_rfl
set_option maxRecDepth 100000 in
theorem lifted_fnExactEngineOK (os : Os) (started : os.Started) (H : Type) (enc : TypeId × Value → H) :
    ReturnsInHanded {} Try.checked os 3 .any (Rows.fnExactEngineOKSpec.pre6 enc Try.prog Try.f3 Rows.fnExactEngineOKRow.domain false) (Rows.fnExactEngineOKSpec.post enc Try.prog Try.f3 false true false false) := by
  refine returnsInHanded_of_change_shaped (C := Try.checked) own_fnExactEngineOK started (by kernel_rfl) Try.func3
    (ChangeSpec.witness6 (enc := enc) (C := Try.checked) false ⟨#[], #[.agg #[.int .i64 0, .string ⟨#[]⟩, .int .i64 0, .slice none 0 0]], []⟩ 8 (by kernel_rfl) (by kernel_rfl) (by kernel_rfl) (by kernel_rfl)) ?_
  intro W base args ds gs before hval0 hW hcnd hreach hsh _
  have hval : ∀ (j : Nat) t v, Try.f3.params[j]? = some t → args[j]? = some v → Value.okWide Try.prog W .any base t v := hval0
  have hW' := hW
  obtain ⟨p, q, hA0, hV, rfl, hfz, hnd⟩ := hW
  have hA : DataW.TrodAll enc Try.prog W 0 (fun _ => true) true Try.f3.params.toList args.toList ds p := hA0
  rw [Try.params3] at hA hval
  obtain ⟨v0, vs0, d0, ds0, p0, q0, hargs, rfl, rfl, h0, r0⟩ := trodAll_cons hA
  obtain ⟨rfl, rfl, rfl⟩ := trodAll_nil r0
  obtain rfl : args = #[v0] := by cases args; simp_all
  obtain ⟨rfl, rfl⟩ := trodVars_none hV
  have k0 := h0
  have lt0 : ∀ x ∈ p0, x.block < W.heap.size := by obtain ⟨m, hm⟩ := k0; exact DataW.trod_lt m _ _ _ hm
  obtain ⟨cs, rfl, -⟩ := okWide_struct Try.underlying26 (hval 0 26 v0 rfl rfl)
  obtain ⟨room, t, sure, A, c, l, rfl, hC, hc, ht, hl, hs⟩ := open_engine h0
  obtain ⟨k, hk⟩ := (PFnExactEngineOK.law_true room t sure l ht hl hs).rounds
  clear hA0 hval0
  refine (PFnExactEngineOK.laws_FnExactEngineOK.calls k room t sure A c l true W hC hc hk).mono fun e W' ⟨he, bel⟩ => ?_
  subst he
  exact ⟨_, rfl, _, _, _, [], _, [], hW', trodAll_mk1 (shut_bool Try.underlying4 _), (trodAll_cons_mk (Below.trod laidOut_fnExactEngineOK (by kernel_rfl) (of_decide_eq_true (by kernel_rfl)) k0 bel lt0) trodAll_mk0), rfl, bel.frame _, fun h => by cases h⟩

/-- THE STATEMENT. -/
theorem proved_fnExactEngineOK : Rows.FnExactEngineOKSaid :=
  OpenClaim.holds_of_wide 3 Try.f3 rfl rfl rfl rfl rfl rfl rfl ⟨rfl, rfl, rfl, rfl, rfl⟩ rfl rfl rfl rfl rfl (by kernel_rfl) Try.func3 (by kernel_rfl)
    (of_decide_eq_true (by kernel_rfl)) (by unfold Func.isWrapper; first | (rw [if_pos (by decide +kernel)]; kernel_rfl) | (rw [if_neg (by decide +kernel)]; exact ⟨rfl, rfl⟩))
    (fun os started H enc _ => lifted_fnExactEngineOK os started H enc)
#print axioms proved_fnExactEngineOK
end Go.Proofs.Ytbikfhccfenkdaa
