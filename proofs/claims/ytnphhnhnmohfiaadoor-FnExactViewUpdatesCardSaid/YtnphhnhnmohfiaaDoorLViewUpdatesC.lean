/- The statement FnExactViewUpdates (its card): the program's ViewUpdates returns what the reference's returns, for all arguments, in memory of its own. -/
import Derived.Test.YtnphhnhnmohfiaaDoorLViewUpdatesN
import Derived.Test.YtnphhnhnmohfiaaDoorOpens
import Derived.Test.YtnphhnhnmohfiaaDoorOpen
import Derived.Test.YtnphhnhnmohfiaaDoorDoor
import Derived.Test.YtnphhnhnmohfiaaDoorCards
import Derived.Test.YtnphhnhnmohfiaaDoorTie
import Derived.Test.YtnphhnhnmohfiaaDoorRows
import Derived.Shelf.Vars
import Derived.LaidMore
import Derived.Lay
import Derived.LaidOnce
import Derived.LaidSub
import Derived.Lib.LaidTab
import Derived.SevenTiedAt
import Derived.ShutString
set_option linter.unusedVariables false
set_option linter.unusedSimpArgs false
set_option maxHeartbeats 8000000
set_option maxRecDepth 100000
namespace Go.Proofs.YtnphhnhnmohfiaaDoor
open Go.ChangeShapes Go.WideShapes Go.ChangeAt Go.RowKit Go.Proofs.YtnphhnhnmohfiaaDoorW.PrintWords
open Go.ChangeMaps (open_string shut_string)
section
variable {H : Type} {enc : TypeId × Value → H} {W : World}
theorem opens_stored : Opens enc Tryd.prog W PFnExactViewUpdates.k64 64 (fun x => x.f2.size ≤ maxLen) :=
  (opens_iso (opens_struct Tryd.underlying64 (by kernel_rfl) (opensF_cons (opens_int Tryd.underlying3 (by kernel_rfl)) rfl (opensF_cons (opens_int Tryd.underlying3 (by kernel_rfl)) rfl
    (opensF_one (opens_string Tryd.underlying9 (by kernel_rfl)) rfl)))) (fun y => ⟨y.1, y.2.1, y.2.2⟩) (fun _ => rfl)).weaken fun x h => h.2.2
theorem open_box {cs : Array Value} {d : DataW H} {p : List MemPlace} (h : DataW.Trod enc Tryd.prog W 0 (fun _ => true) true 25 (.agg cs) d p) :
    ∃ (n : ByteArray) (v x : Int) (A : Option Addr) (c : Nat) (l : List PFnExactViewUpdates.S64) (B : Option Addr) (e : Nat) (ks : List ByteArray), cs = #[.string n, .int .i64 v, .int .i64 x, .slice A l.length c, .slice B ks.length e] ∧
      Kd.C PFnExactViewUpdates.k64 W A l.length l ∧ l.length ≤ c ∧ Kd.C Kd.string W B ks.length ks ∧ ks.length ≤ e ∧ n.size ≤ maxLen ∧ l.length ≤ maxLen ∧ (∀ y ∈ l, y.f2.size ≤ maxLen) ∧ ks.length ≤ maxLen ∧ ∀ t ∈ ks, t.size ≤ maxLen := by
  have hO := opens_struct (enc := enc) (W := W) Tryd.underlying25 (by kernel_rfl) (opensF_cons (opens_string Tryd.underlying9 (by kernel_rfl)) rfl (opensF_cons (opens_int Tryd.underlying3 (by kernel_rfl)) rfl (opensF_cons (opens_int Tryd.underlying3 (by kernel_rfl)) rfl
    (opensF_cons (opens_slice Tryd.underlying22 (by kernel_rfl) opens_stored 0) rfl (opensF_one (opens_slice Tryd.underlying23 (by kernel_rfl) (opens_string Tryd.underlying9 (by kernel_rfl)) 0) rfl)))))
  obtain ⟨⟨n, v, x, l, ks⟩, hK, h1, -, -, ⟨h2, h3⟩, h4, h5⟩ := hO.at h
  obtain ⟨_, _, he, rfl, _, _, rfl, rfl, _, _, rfl, rfl, _, _, rfl, ⟨A, c, rfl, hc, hC⟩, B, e, rfl, hd, hD⟩ := hK
  refine ⟨n, v, x, A, c, l, B, e, ks, ?_, hC, hc, hD, hd, h1, h2, h3, h4, h5⟩
  cases cs; simpa [Value.cells] using he
theorem open_intsC {a : Option Addr} {len cap : Nat} {d : DataW H} {p : List MemPlace} (h : DataW.Trod enc Tryd.prog W 0 (fun _ => true) true 26 (.slice a len cap) d p) :
    ∃ l : List Int, l.length = len ∧ len ≤ cap ∧ Kd.C (Kd.int .i64) W a len l ∧ l.length ≤ maxLen := by
  obtain ⟨l, ⟨A, c, he, hc, hC⟩, hm, -⟩ := (opens_slice (enc := enc) (W := W) Tryd.underlying26 (by kernel_rfl) (opens_int Tryd.underlying3 (by kernel_rfl)) 0).at h
  simp [Value.cells] at he
  obtain ⟨rfl, rfl, rfl⟩ := he
  exact ⟨l, rfl, hc, hC, hm⟩
theorem tab_of (h : laidMetH Tryd.prog Rows.fnExactViewUpdatesRow.laid W) : Lib.TabIs Tryd.prog W "internal/strconv.uint64pow10" .u64 Lib.pow10Tab := by
  rw [MakeChecks.laidMetH_plain _ _ _ (by kernel_rfl)] at h
  have hT := h.filter (fun x => x.1 == "internal/strconv.uint64pow10")
  exact Lib.tabIs_of_head (g := 3) (t := 200) (e := 157) (n := 20) (rest := []) (by kernel_rfl) (by kernel_rfl) (by kernel_rfl) (by kernel_rfl) (by kernel_rfl) (by kernel_rfl) hT
end

theorem own_fnExactViewUpdates : ownKnob Tryd.prog.godebug = none := by kernel_rfl
theorem laidOut_fnExactViewUpdates : laidOutB Tryd.prog = true := by kernel_rfl
set_option maxRecDepth 100000 in
theorem lifted_fnExactViewUpdates (os : Os) (started : os.Started) (H : Type) (enc : TypeId × Value → H) :
    ReturnsInHanded {} Tryd.checked os 3 .any (fun w args => (Rows.fnExactViewUpdatesSpec.pre enc Tryd.prog Tryd.f3 [] false w args ∧ laidMetH Tryd.prog Rows.fnExactViewUpdatesRow.laid w) ∧ sizedMet enc Tryd.prog Tryd.f3 (OpenSpec.ofChange Rows.fnExactViewUpdatesSpec) false w args)
      (Rows.fnExactViewUpdatesSpec.post enc Tryd.prog Tryd.f3 false true false false) := by
  refine handed_and_shaped (C := Tryd.checked) (X := fun w _ => laidMetH Tryd.prog Rows.fnExactViewUpdatesRow.laid w) (fun _ _ _ hh h => h.of_heap hh) own_fnExactViewUpdates started (by kernel_rfl) Tryd.func3
    (ChangeSpec.witness_shaped (enc := enc) (C := Tryd.checked) (os := os) (X := fun w _ => laidMetH Tryd.prog Rows.fnExactViewUpdatesRow.laid w) false (World.laidAll Tryd.prog os Rows.fnExactViewUpdatesRow.laid) #[.agg #[.string ⟨#[]⟩, .int .i64 0, .int .i64 0, .slice none 0 0, .slice none 0 0], .slice none 0 0] 8 (World.laidAll_os _ _ _)
      (World.shaped_of_ZipB (by kernel_rfl) (by kernel_rfl)) (by kernel_rfl) (by kernel_rfl) (by kernel_rfl)
      (by rw [MakeChecks.laidMetH_plain _ _ _ (by kernel_rfl)]; exact laidMet_laidAll _ (by kernel_rfl) (by kernel_rfl))) ?_
  intro W base args ds gs before hval0 hW hcnd hreach hL hsh _
  have hval : ∀ (j : Nat) t v, Tryd.f3.params[j]? = some t → args[j]? = some v → Value.okWide Tryd.prog W .any base t v := hval0
  have hW' := hW
  obtain ⟨p, q, hA0, hV, rfl, hfz, hnd⟩ := hW
  have hA : DataW.TrodAll enc Tryd.prog W 0 (fun _ => true) true Tryd.f3.params.toList args.toList ds p := hA0
  rw [Tryd.params3] at hA hval
  obtain ⟨v0, vs0, d0, ds0, p0, q0, hargs, rfl, rfl, h0, r0⟩ := trodAll_cons hA
  obtain ⟨v1, vs1, d1, ds1, p1, q1, rfl, rfl, rfl, h1, r1⟩ := trodAll_cons r0
  obtain ⟨rfl, rfl, rfl⟩ := trodAll_nil r1
  obtain rfl : args = #[v0, v1] := by cases args; simp_all
  obtain ⟨rfl, rfl⟩ := trodVars_none hV
  have k0 := h0
  have lt0 : ∀ x ∈ p0, x.block < W.heap.size := by obtain ⟨m, hm⟩ := k0; exact DataW.trod_lt m _ _ _ hm
  have k1 := h1
  have lt1 : ∀ x ∈ p1, x.block < W.heap.size := by obtain ⟨m, hm⟩ := k1; exact DataW.trod_lt m _ _ _ hm
  obtain ⟨cs, rfl, -⟩ := okWide_struct Tryd.underlying25 (hval 0 25 v0 rfl rfl)
  obtain ⟨n, v, x, A, c, l, B, e, ks, rfl, hC, hc, hD, hd, hn, hl, hx, hk, hs⟩ := open_box h0
  obtain ⟨a1, len1, cap1, rfl⟩ := okWide_slice Tryd.underlying26 (hval 1 26 v1 rfl rfl)
  obtain ⟨vw, rfl, hcap, hE, hvw⟩ := open_intsC h1
  obtain ⟨g, hg⟩ := Go.Proofs.cell_of_shapedOpen_int (g := 2) (zero := #[.int .i64 0]) (t := 3) hsh (of_decide_eq_true (by kernel_rfl)) (by kernel_rfl) rfl (by kernel_rfl) (by kernel_rfl) Tryd.underlying3
  have hT := tab_of hL
  obtain ⟨k, hk⟩ := (PFnExactViewUpdates.law_true n v x l ks vw hn hl hx hk hs).rounds
  clear hA0 hval0 hL
  refine (PFnExactViewUpdates.laws_FnExactViewUpdates.calls k n v x A c l B e ks a1 cap1 vw true W hC hc hD hd hE hcap ⟨⟨World.block_lt_of_cell? _ _ hg, ⟨g, hg⟩, hT⟩⟩ hk).mono fun e W' ⟨he, bel⟩ => ?_
  subst he
  exact ⟨_, rfl, _, _, _, [], _, [], hW', trodAll_mk1 (shut_bool Tryd.underlying4 _), (trodAll_cons_mk (Below.trod laidOut_fnExactViewUpdates (by kernel_rfl) (of_decide_eq_true (by kernel_rfl)) k0 bel lt0) (trodAll_cons_mk (Below.trod laidOut_fnExactViewUpdates (by kernel_rfl) (of_decide_eq_true (by kernel_rfl)) k1 bel lt1) trodAll_mk0)), rfl, bel.frame _, fun h => by cases h⟩
theorem holds_fnExactViewUpdates : Rows.FnExactViewUpdatesSaid :=
  OpenClaim.holds_of_wide 3 Tryd.f3 rfl rfl rfl rfl rfl rfl rfl ⟨rfl, rfl, rfl, rfl, rfl⟩ rfl rfl rfl rfl rfl (by kernel_rfl) Tryd.func3 (by kernel_rfl)
    (of_decide_eq_true (by kernel_rfl)) (by unfold Func.isWrapper; first | (rw [if_pos (by decide +kernel)]; kernel_rfl) | (rw [if_neg (by decide +kernel)]; exact ⟨rfl, rfl⟩))
    (fun os started H enc _ => lifted_fnExactViewUpdates os started H enc)
/-- THE STATEMENT: the card. -/
theorem proved_fnExactViewUpdates : Rows.FnExactViewUpdatesCardSaid :=
  Claim7.holds_tied_plain_at .later [] [.data, .data, .data] true (true, "16fe371b551e690962b5cbce725769b02f46070a3b315227e5169e47c8bc0152") true holds_fnExactViewUpdates (fun _ h => by cases h) (by kernel_rfl) (fun _ h => by cases h) fnExactViewUpdates_row_tie rfl ⟨rfl, rfl⟩ (by kernel_rfl) rfl
    (fun f fn hf hfn => by
      obtain rfl : f = 3 := Option.some.inj ((show Tryd.prog.funcNamed "loop.example/g00268/laws.FnExactViewUpdates" = some 3 by kernel_rfl).symm.trans hf) |>.symm
      obtain rfl : fn = Tryd.f3 := (Option.some.inj (Tryd.func3.symm.trans hfn)).symm
      exact ⟨by kernel_rfl, fun j t ht => by
        rw [Tryd.params3] at ht
        have hm : t ∈ [25, 26] := by simpa using Array.mem_of_getElem? ht
        have hall : ([25, 26].all fun u => !Tryd.prog.wantsStandIn u) = true := by kernel_rfl
        exact (show Tryd.prog.wantsStandIn t = false by simpa using List.all_eq_true.1 hall t hm)⟩)
    (by kernel_rfl)
#print axioms proved_fnExactViewUpdates
end Go.Proofs.YtnphhnhnmohfiaaDoor
