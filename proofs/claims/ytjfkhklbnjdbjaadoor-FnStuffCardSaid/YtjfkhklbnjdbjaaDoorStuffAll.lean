/- The statement FnStuff: a text of lines as a block is read back, and no beginning of the block is. -/
import Derived.Test.YtjfkhklbnjdbjaaDoorStuffLaw
import Derived.Test.YtjfkhklbnjdbjaaDoorStuffBack
import Derived.Test.YtjfkhklbnjdbjaaDoorStuffing
import Derived.Test.YtjfkhklbnjdbjaaDoorAt
set_option linter.unusedVariables false
set_option linter.unusedSimpArgs false
set_option maxHeartbeats 8000000
set_option maxRecDepth 100000
namespace Go.Proofs.YtjfkhklbnjdbjaaDoor
open Go.ChangeShapes Go.WideShapes Go.ChangeAt Go.RowKit Go.Lib
open Go.ChangeMaps (open_string shut_string)

theorem back_all {t : Bytes} (hl : linesL t = true) (h : t.length ≤ 36) : stuffV t = (stuffL t, 0) ∧ unsV (stuffL t) = (t, 0) ∧ 3 ≤ (stuffL t).length ∧ (stuffL t).length ≤ 75 ∧ ∀ k, k < (stuffL t).length → (unsV ((stuffL t).take k)).2 ≠ 0 := by
  have hs := stuffS_length t true false
  have hsz : (stuffL t).length = (stuffS true false t).length + 3 := by simp [stuffL]
  refine ⟨by rw [stuffV, if_neg (by omega), if_pos hl], ?_, by omega, by omega, ?_⟩
  · rw [unsV, if_neg (by omega)]
    have := uns_back t true false [] (finS_lines hl)
    simpa [stuffL] using this
  · intro k hk
    rw [unsV, if_neg (by simp; omega)]
    exact uns_cut t true false [] k hk

theorem lawStuff (v0 v1 : Value) (z0 z1 : List Int) (g : Int) (w : World) (h0 : IsBytes w v0 z0) (h1 : IsBytes w v1 z1) (hg : w.cell? ⟨0, 0, none⟩ = some (.int .i64 g)) :
    Calls Tryd.prog 4 #[v0, v1] w (RetB (.bool true) w) := by
  have H0 := Lib.hid h0
  have H1 := Lib.hid h1
  obtain ⟨_, m0, a0, c0, rfl, _⟩ := h0
  obtain ⟨_, m1, a1, c1, rfl, _⟩ := h1
  unfold maxLen at m0 m1
  by_cases hl0 : 1048576 < z0.length
  · go_enter Tryd.func4, Tryd.ntmps4
    go_wp2
    go_ret
    exact retB rfl (by (repeat (first | exact Below.refl _ _ | (refine Below.alloc ?_ (by first | omega | (simp only [World.size_alloc, World.size_setCell, World.size_drew, size_drewN]; omega)) _) | (refine Below.setCell ?_ (by first | omega | (simp only [World.size_alloc, World.size_setCell, World.size_drew, size_drewN]; omega)) _) | refine Below.drew ?_ | refine below_drewN ?_ _ | (refine Below.trans ?_ (Below.mono (by assumption) (by first | omega | (simp only [World.size_alloc, World.size_setCell, World.size_drew, size_drewN]; omega)))))))
  by_cases hl1 : 1048576 < z1.length
  · go_enter Tryd.func4, Tryd.ntmps4
    go_wp2
    go_ret
    exact retB rfl (by (repeat (first | exact Below.refl _ _ | (refine Below.alloc ?_ (by first | omega | (simp only [World.size_alloc, World.size_setCell, World.size_drew, size_drewN]; omega)) _) | (refine Below.setCell ?_ (by first | omega | (simp only [World.size_alloc, World.size_setCell, World.size_drew, size_drewN]; omega)) _) | refine Below.drew ?_ | refine below_drewN ?_ _ | (refine Below.trans ?_ (Below.mono (by assumption) (by first | omega | (simp only [World.size_alloc, World.size_setCell, World.size_drew, size_drewN]; omega)))))))
  have hg0 := World.block_lt_of_cell? _ _ hg
  dsimp only at hg0
  have HG := Lib.hid hg
  clear hg
  go_enter Tryd.func4, Tryd.ntmps4
  go_wp2_with fail
  refine (s_StuffingOf _ z0 _ H0.out).mono ?_
  rintro e w1 ⟨t, rfl, ht, htl, hb1⟩
  obtain ⟨e1, e2, e3, e4, e5⟩ := back_all ht htl
  have E5 := Lib.hid e5
  clear e5
  have g1 : w1.cell? ⟨0, 0, none⟩ = some (.int .i64 g) := by rw [hb1.cell (p := ⟨0, 0, none⟩) hg0]; exact HG.out
  have k1 := hb1.size
  have i1 : IsBytes w1 (.slice a1 z1.length c1) z1 := H1.out.below hb1
  have g1' := Lib.hid g1
  clear g1
  have i1' := Lib.hid i1
  clear i1
  go_wp2_with fail
  refine (i_DotStuff t g _ (by omega) g1'.out).mono ?_
  rw [e1]
  rintro e w2 ⟨rfl, hb2⟩
  have k2 := hb2.size
  have g2 := Lib.hid (show w2.cell? ⟨0, 0, none⟩ = some (.int .i64 g) by rw [hb2.cell (p := ⟨0, 0, none⟩) (by dsimp only; omega)]; exact g1'.out)
  have i2 := Lib.hid (i1'.out.below hb2)
  clear g1' i1'
  go_wp2_with fail
  refine (s_DotStuff t _ (by omega)).mono ?_
  rw [e1]
  rintro e w3 ⟨rfl, hb3⟩
  have k3 := hb3.size
  have g3 := Lib.hid (show w3.cell? ⟨0, 0, none⟩ = some (.int .i64 g) by rw [hb3.cell (p := ⟨0, 0, none⟩) (by dsimp only; omega)]; exact g2.out)
  have i3 := Lib.hid (i2.out.below hb3)
  clear g2 i2
  generalize hx : stuffL t = x at *
  go_wp2_with fail
  refine (i_DotUnstuff x g _ (by omega) g3.out).mono ?_
  rw [e2]
  rintro e w4 ⟨rfl, hb4⟩
  have k4 := hb4.size
  have g4 := Lib.hid (show w4.cell? ⟨0, 0, none⟩ = some (.int .i64 g) by rw [hb4.cell (p := ⟨0, 0, none⟩) (by dsimp only; omega)]; exact g3.out)
  have i4 := Lib.hid (i3.out.below hb4)
  clear g3 i3
  go_wp2_with fail
  refine (l_at _ z1 0 x.length _ i4.out (by omega) (by omega) (by omega) (by omega) (by omega)).mono ?_
  rintro e w5 ⟨y, _, rfl, hy0, hy1, nd, rfl⟩
  have h5 := E5.out y.toNat (by omega)
  have y1 : y.toNat ≤ x.length := by omega
  have y2 : ((y.toNat : Nat) : Int) = y := by omega
  have hn : (unsV (x.take y.toNat)).2 ≠ 0 := h5
  have g5 := Lib.hid (show (w4.drewN nd).cell? ⟨0, 0, none⟩ = some (.int .i64 g) from g4.out)
  clear g4 i4 h5
  go_wp2_with fail
  refine (i_DotUnstuff (x.take y.toNat) g _ (by simp; omega) g5.out).mono ?_
  have g5' := g5.out
  rintro e w6 ⟨rfl, hb6⟩
  have hb6' : Below w4.heap.size w4 w6 := Below.trans (below_drewN (Below.refl _ _) nd) hb6
  have k6 := hb6'.size
  generalize hc : (unsV (x.take y.toNat)).2 = code at *
  generalize ho : (unsV (x.take y.toNat)).1 = out at *
  go_wp2_with fail
  refine (s_DotUnstuff (x.take y.toNat) _ (by simp; omega)).mono ?_
  rintro e w7 ⟨rfl, hb7⟩
  rw [hc, ho]
  have k7 := hb7.size
  have hnb : (code != 0) = true := by simpa using hn
  go_wp2
  go_ret
  refine retB rfl ?_
  have b5 : Below w.heap.size w w4 := by (repeat (first | exact Below.refl _ _ | (refine Below.alloc ?_ (by first | omega | (simp only [World.size_alloc, World.size_setCell, World.size_drew, size_drewN]; omega)) _) | (refine Below.setCell ?_ (by first | omega | (simp only [World.size_alloc, World.size_setCell, World.size_drew, size_drewN]; omega)) _) | refine Below.drew ?_ | refine below_drewN ?_ _ | (refine Below.trans ?_ (Below.mono (by assumption) (by first | omega | (simp only [World.size_alloc, World.size_setCell, World.size_drew, size_drewN]; omega))))))
  exact Below.trans b5 (Below.trans (Below.mono hb6' (by omega)) (Below.mono hb7 (by omega)))

theorem own_fnStuff : ownKnob Tryd.prog.godebug = none := by kernel_rfl
theorem laidOut_fnStuff : laidOutB Tryd.prog = true := by kernel_rfl
set_option maxRecDepth 100000 in
theorem lifted_fnStuff (os : Os) (started : os.Started) (H : Type) (enc : TypeId × Value → H) :
    ReturnsInHanded {} Tryd.checked os 4 .any (fun w args => (Rows.fnStuffSpec.pre enc Tryd.prog Tryd.f4 [] false w args ∧ laidMetH Tryd.prog Rows.fnStuffRow.laid w) ∧ sizedMet enc Tryd.prog Tryd.f4 (OpenSpec.ofChange Rows.fnStuffSpec) false w args)
      (Rows.fnStuffSpec.post enc Tryd.prog Tryd.f4 false true false false) := by
  refine handed_and_shaped (C := Tryd.checked) (X := fun w _ => laidMetH Tryd.prog Rows.fnStuffRow.laid w) (fun _ _ _ hh h => h.of_heap hh) own_fnStuff started (by kernel_rfl) Tryd.func4
    (ChangeSpec.witness_shaped (enc := enc) (C := Tryd.checked) (os := os) (X := fun w _ => laidMetH Tryd.prog Rows.fnStuffRow.laid w) false (World.laidAll Tryd.prog os Rows.fnStuffRow.laid) #[.slice none 0 0, .slice none 0 0] 8 (World.laidAll_os _ _ _)
      (World.shaped_of_ZipB (by kernel_rfl) (by kernel_rfl)) (by kernel_rfl) (by kernel_rfl) (by kernel_rfl)
      (by rw [MakeChecks.laidMetH_plain _ _ _ (by kernel_rfl)]; exact laidMet_laidAll _ (by kernel_rfl) (by kernel_rfl))) ?_
  intro W base args ds gs before hval0 hW hcnd hreach hL hsh _
  have hval : ∀ (j : Nat) t v, Tryd.f4.params[j]? = some t → args[j]? = some v → Value.okWide Tryd.prog W .any base t v := hval0
  have hW' := hW
  obtain ⟨p, q, hA0, hV, rfl, hfz, hnd⟩ := hW
  have hA : DataW.TrodAll enc Tryd.prog W 0 (fun _ => true) true Tryd.f4.params.toList args.toList ds p := hA0
  rw [Tryd.params4] at hA hval
  obtain ⟨v0, vs0, d0, ds0, p0, q0, hargs, rfl, rfl, h0, r0⟩ := trodAll_cons hA
  obtain ⟨v1, vs1, d1, ds1, p1, q1, rfl, rfl, rfl, h1, r1⟩ := trodAll_cons r0
  obtain ⟨rfl, rfl, rfl⟩ := trodAll_nil r1
  obtain rfl : args = #[v0, v1] := by cases args; simp_all
  obtain ⟨rfl, rfl⟩ := trodVars_none hV
  have k0 := h0
  have lt0 : ∀ x ∈ p0, x.block < W.heap.size := by obtain ⟨m, hm⟩ := k0; exact DataW.trod_lt m _ _ _ hm
  have k1 := h1
  have lt1 : ∀ x ∈ p1, x.block < W.heap.size := by obtain ⟨m, hm⟩ := k1; exact DataW.trod_lt m _ _ _ hm
  obtain ⟨a0, len0, cap0, rfl⟩ := okWide_slice Tryd.underlying25 (hval 0 25 v0 rfl rfl)
  obtain ⟨z0, w0, n0⟩ := open_bytes Tryd.underlying25 Tryd.underlying5 (by kernel_rfl) h0
  obtain ⟨a1, len1, cap1, rfl⟩ := okWide_slice Tryd.underlying25 (hval 1 25 v1 rfl rfl)
  obtain ⟨z1, w1, n1⟩ := open_bytes Tryd.underlying25 Tryd.underlying5 (by kernel_rfl) h1
  obtain ⟨g, hg⟩ := Go.Proofs.cell_of_shapedOpen_int (g := 0) (zero := #[.int .i64 0]) (t := 3) hsh (of_decide_eq_true (by kernel_rfl)) (by kernel_rfl) rfl (by kernel_rfl) (by kernel_rfl) Tryd.underlying3
  clear hA0 hval0 hL
  refine (lawStuff _ _ z0 z1 g W w0 w1 hg).mono fun e W' ⟨he, bel⟩ => ?_
  subst he
  exact ⟨_, rfl, _, _, _, [], _, [], hW', trodAll_mk1 (shut_bool Tryd.underlying4 _), (trodAll_cons_mk (Below.trod laidOut_fnStuff (by kernel_rfl) (of_decide_eq_true (by kernel_rfl)) k0 bel lt0) (trodAll_cons_mk (Below.trod laidOut_fnStuff (by kernel_rfl) (of_decide_eq_true (by kernel_rfl)) k1 bel lt1) trodAll_mk0)), rfl, bel.frame _, fun h => by cases h⟩
theorem holds_fnStuff : Rows.FnStuffSaid :=
  OpenClaim.holds_of_wide 4 Tryd.f4 rfl rfl rfl rfl rfl rfl rfl ⟨rfl, rfl, rfl, rfl, rfl⟩ rfl rfl rfl rfl rfl (by kernel_rfl) Tryd.func4 (by kernel_rfl)
    (of_decide_eq_true (by kernel_rfl)) (by unfold Func.isWrapper; first | (rw [if_pos (by decide +kernel)]; kernel_rfl) | (rw [if_neg (by decide +kernel)]; exact ⟨rfl, rfl⟩))
    (fun os started H enc _ => lifted_fnStuff os started H enc)
/-- THE STATEMENT: the card. -/
theorem proved_fnStuff : Rows.FnStuffCardSaid :=
  Claim7.holds_tied_plain_at .later [] [.data, .pinned] true (true, "fb1d2d7c6cfff179ff6a55a9fec7f3b555d58a2e0d0a28affbefedb7cc59625d") false holds_fnStuff (fun _ h => by cases h) (by kernel_rfl) (fun _ h => by cases h) fnStuff_row_tie rfl ⟨rfl, rfl⟩ (by kernel_rfl) rfl
    (fun f fn hf hfn => by
      obtain rfl : f = 4 := Option.some.inj ((show Tryd.prog.funcNamed "loop.example/g00268/laws.FnStuff" = some 4 by kernel_rfl).symm.trans hf) |>.symm
      obtain rfl : fn = Tryd.f4 := (Option.some.inj (Tryd.func4.symm.trans hfn)).symm
      exact ⟨by kernel_rfl, fun j t ht => by
        rw [Tryd.params4] at ht
        have hm : t ∈ [25, 25] := by simpa using Array.mem_of_getElem? ht
        have hall : ([25, 25].all fun u => !Tryd.prog.wantsStandIn u) = true := by kernel_rfl
        exact (show Tryd.prog.wantsStandIn t = false by simpa using List.all_eq_true.1 hall t hm)⟩)
    (by kernel_rfl)
#print axioms proved_fnStuff
end Go.Proofs.YtjfkhklbnjdbjaaDoor
