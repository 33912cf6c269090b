/- The statement FnExactCommit: the program's Commit returns what the reference's returns, for all arguments. -/
import Derived.Test.YtifkmkiljpeaaadGreatLComN
import Derived.Test.YtifkmkiljpeaaadGreatOwnC
import Derived.Test.YtifkmkiljpeaaadGreatRows
set_option linter.unusedVariables false
set_option linter.unusedSimpArgs false
set_option maxHeartbeats 8000000
set_option maxRecDepth 100000
namespace Go.Proofs.YtifkmkiljpeaaadGreat
open Go.ChangeShapes Go.WideShapes Go.ChangeAt Go.RowKit Go.Proofs.YtifkmkiljpeaaadGreatW.PrintWords
section
variable {H : Type} {enc : TypeId × Value -> H} {W : World}
theorem opens_stored : Opens enc Tryz.prog W PFnExactCommit.k136 136 (fun x => x.f2.size <= maxLen) :=
  (opens_iso (opens_struct Tryz.underlying136 (by kernel_rfl) (fu (opens_int Tryz.underlying3 (by kernel_rfl)) rfl (fu (opens_int Tryz.underlying3 (by kernel_rfl)) rfl
    (opensF_one (opens_string Tryz.underlying9 (by kernel_rfl)) rfl)))) (fun y => ⟨y.1, y.2.1, y.2.2⟩) (fun _ => rfl)).weaken fun x h => h.2.2
theorem opens_box : Opens enc Tryz.prog W PFnExactCommit.k68 68 PFnExactCommit.InB :=
  (opens_iso (opens_struct Tryz.underlying68 (by kernel_rfl) (fu (opens_string Tryz.underlying9 (by kernel_rfl)) rfl (fu (opens_int Tryz.underlying3 (by kernel_rfl)) rfl (fu (opens_int Tryz.underlying3 (by kernel_rfl)) rfl
    (fu (opens_slice Tryz.underlying65 (by kernel_rfl) opens_stored 136) rfl (opensF_one (opens_slice Tryz.underlying66 (by kernel_rfl) (opens_string Tryz.underlying9 (by kernel_rfl)) 9) rfl)))))) (fun y => ⟨y.1, y.2.1, y.2.2.1, y.2.2.2.1, y.2.2.2.2⟩) (fun _ => rfl)).weaken fun x h => ⟨h.1, h.2.2.2.1.1, h.2.2.2.1.2, h.2.2.2.2.1, h.2.2.2.2.2⟩
theorem open_engine {cs : Array Value} {d : DataW H} {p : List MemPlace} (h : DataW.Trod enc Tryz.prog W 0 (fun _ => true) true 26 (.agg cs) d p) :
    ∃ (room : Int) (t : ByteArray) (sure : Int) (A : Option Addr) (c : Nat) (l : List PFnExactCommit.S68), cs = #[.int .i64 room, .string t, .int .i64 sure, .slice A l.length c] /\
      Kd.C PFnExactCommit.k68 W A l.length l /\ l.length <= c /\ t.size <= maxLen /\ l.length <= maxLen /\ ∀ b ∈ l, PFnExactCommit.InB b := by
  have hO := opens_struct (enc := enc) (W := W) Tryz.underlying26 (by kernel_rfl) (fu (opens_struct Tryz.underlying23 (by kernel_rfl) (fu (opens_int Tryz.underlying3 (by kernel_rfl)) rfl (fu (opens_string Tryz.underlying9 (by kernel_rfl)) rfl (opensF_one (opens_int Tryz.underlying3 (by kernel_rfl)) rfl)))) rfl
    (opensF_one (opens_slice Tryz.underlying24 (by kernel_rfl) opens_box 0) rfl))
  obtain ⟨⟨⟨room, t, sure⟩, l⟩, hK, ⟨-, h1, -⟩, h2, h3⟩ := hO.at h
  obtain ⟨_, _, he, ⟨_, _, rfl, rfl, _, _, rfl, rfl, rfl⟩, ⟨A, c, rfl, hc, hC⟩⟩ := hK
  refine ⟨room, t, sure, A, c, l, ?_, hC, hc, h1, h2, h3⟩
  cases cs; simpa [Value.cells] using he
theorem opens_item : Opens enc Tryz.prog W PFnExactCommit.k71 71 PFnExactCommit.InI :=
  (opens_iso (opens_struct Tryz.underlying71 (by kernel_rfl) (fu (opens_string Tryz.underlying9 (by kernel_rfl)) rfl (opensF_one (opens_string Tryz.underlying9 (by kernel_rfl)) rfl))) (fun y => ⟨y.1, y.2⟩) (fun _ => rfl)).weaken fun x h => ⟨h.1, h.2⟩
theorem open_mutation {cs : Array Value} {d : DataW H} {p : List MemPlace} (h : DataW.Trod enc Tryz.prog W 0 (fun _ => true) true 29 (.agg cs) d p) :
    ∃ (k u m f : Int) (nm : ByteArray) (A : Option Addr) (c : Nat) (l : List PFnExactCommit.S71), cs = #[.int .i64 k, .int .i64 u, .int .i64 m, .int .i64 f, .string nm, .slice A l.length c] /\
      Kd.C PFnExactCommit.k71 W A l.length l /\ l.length <= c /\ nm.size <= maxLen /\ l.length <= maxLen /\ ∀ x ∈ l, PFnExactCommit.InI x := by
  have hO := opens_struct (enc := enc) (W := W) Tryz.underlying29 (by kernel_rfl) (fu (opens_int Tryz.underlying3 (by kernel_rfl)) rfl (fu (opens_int Tryz.underlying3 (by kernel_rfl)) rfl (fu (opens_int Tryz.underlying3 (by kernel_rfl)) rfl (fu (opens_int Tryz.underlying3 (by kernel_rfl)) rfl
    (fu (opens_string Tryz.underlying9 (by kernel_rfl)) rfl (opensF_one (opens_slice Tryz.underlying27 (by kernel_rfl) opens_item 0) rfl))))))
  obtain ⟨⟨k, u, m, f, nm, l⟩, hK, ⟨-, -, -, -, h1, h2, h3⟩⟩ := hO.at h
  obtain ⟨_, _, he, rfl, _, _, rfl, rfl, _, _, rfl, rfl, _, _, rfl, rfl, _, _, rfl, rfl, ⟨A, c, rfl, hc, hC⟩⟩ := hK
  refine ⟨k, u, m, f, nm, A, c, l, ?_, hC, hc, h1, h2, h3⟩
  cases cs; simpa [Value.cells] using he
end
theorem own_fnExactCommit : ownKnob Tryz.prog.godebug = none := by kernel_rfl
theorem laidOut_fnExactCommit : laidOutB Tryz.prog = true := by kernel_rfl
set_option maxRecDepth 100000 in
theorem lifted_fnExactCommit (os : Os) (started : os.Started) (H : Type) (enc : TypeId × Value -> H) :
    ReturnsInHanded {} Tryz.checked os 3 .any (Rows.fnExactCommitSpec.pre6 enc Tryz.prog Tryz.f3 Rows.fnExactCommitRow.domain false) (Rows.fnExactCommitSpec.post enc Tryz.prog Tryz.f3 false true false false) := by
  refine returnsInHanded_of_change_shaped (C := Tryz.checked) own_fnExactCommit started (by kernel_rfl) Tryz.func3
    (ChangeSpec.witness6 (enc := enc) (C := Tryz.checked) false ⟨#[], #[.agg #[.int .i64 0, .string ⟨#[]⟩, .int .i64 0, .slice none 0 0], .agg #[.int .i64 0, .int .i64 0, .int .i64 0, .int .i64 0, .string ⟨#[]⟩, .slice none 0 0]], []⟩ 8 (by kernel_rfl) (by kernel_rfl) (by kernel_rfl) (by kernel_rfl)) ?_
  intro W base args ds gs before hval0 hW hcnd hreach hsh _
  have hval : ∀ (j : Nat) t v, Tryz.f3.params[j]? = some t -> args[j]? = some v -> Value.okWide Tryz.prog W .any base t v := hval0
  have hW' := hW
  obtain ⟨p, q, hA0, hV, rfl, hfz, hnd⟩ := hW
  have hA : DataW.TrodAll enc Tryz.prog W 0 (fun _ => true) true Tryz.f3.params.toList args.toList ds p := hA0
  rw [Tryz.params3] at hA hval
  obtain ⟨v0, vs0, d0, ds0, p0, q0, hargs, rfl, rfl, h0, r0⟩ := trodAll_cons hA
  obtain ⟨v1, vs1, d1, ds1, p1, q1, rfl, rfl, rfl, h1, r1⟩ := trodAll_cons r0
  obtain ⟨rfl, rfl, rfl⟩ := trodAll_nil r1
  obtain rfl : args = #[v0, v1] := by cases args; simp_all
  obtain ⟨rfl, rfl⟩ := trodVars_none hV
  have k0 := h0
  have lt0 : ∀ x ∈ p0, x.block < W.heap.size := by obtain ⟨m, hm⟩ := k0; exact DataW.trod_lt m _ _ _ hm
  have k1 := h1
  have lt1 : ∀ x ∈ p1, x.block < W.heap.size := by obtain ⟨m, hm⟩ := k1; exact DataW.trod_lt m _ _ _ hm
  obtain ⟨cs, rfl, -⟩ := okWide_struct Tryz.underlying26 (hval 0 26 v0 rfl rfl)
  obtain ⟨room, t, sure, A, c, l, rfl, hC, hc, ht, hl, hs⟩ := open_engine h0
  obtain ⟨cs1, rfl, -⟩ := okWide_struct Tryz.underlying29 (hval 1 29 v1 rfl rfl)
  obtain ⟨q0, q1, q2, q3, nm, A', c', its, rfl, hC', hc', hn, hi, hI⟩ := open_mutation h1
  obtain ⟨k, hk⟩ := PFnExactCommit.law_in room t sure l ht hl hs q0 q1 q2 q3 nm its hn hi hI
  clear hA0 hval0
  refine (PFnExactCommit.law_walk k room t sure A c l q0 q1 q2 q3 nm A' c' its W hC hc hC' hc' hk).mono fun e W' ⟨he, bel⟩ => ?_
  subst he
  exact ⟨_, rfl, _, _, _, [], _, [], hW', trodAll_mk1 (shut_bool Tryz.underlying4 _), (trodAll_cons_mk (Below.trod laidOut_fnExactCommit (by kernel_rfl) (of_decide_eq_true (by kernel_rfl)) k0 bel lt0) (trodAll_cons_mk (Below.trod laidOut_fnExactCommit (by kernel_rfl) (of_decide_eq_true (by kernel_rfl)) k1 bel lt1) trodAll_mk0)), rfl, bel.frame _, fun h => by cases h⟩

/-- THE STATEMENT. -/
theorem proved_fnExactCommit : Rows.FnExactCommitSaid :=
  OpenClaim.holds_of_wide 3 Tryz.f3 rfl rfl rfl rfl rfl rfl rfl ⟨rfl, rfl, rfl, rfl, rfl⟩ rfl rfl rfl rfl rfl (by kernel_rfl) Tryz.func3 (by kernel_rfl)
    (of_decide_eq_true (by kernel_rfl)) (by unfold Func.isWrapper; first | (rw [if_pos (by decide +kernel)]; kernel_rfl) | (rw [if_neg (by decide +kernel)]; exact ⟨rfl, rfl⟩))
    (fun os started H enc _ => lifted_fnExactCommit os started H enc)
#print axioms proved_fnExactCommit
end Go.Proofs.YtifkmkiljpeaaadGreat
