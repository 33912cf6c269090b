/- Contracts of functions that a statement reaches (wip/x/xprint.py, short.py, compact.py). -/
import Derived.Test.YtbikfhccfenkdaaPFnExactEngineOKx0
import Derived.Test.YtbikfhccfenkdaaPFnExactEngineOKx10
import Derived.Test.YtbikfhccfenkdaaPFnExactEngineOKx19
namespace Go.Proofs.Ytbikfhccfenkdaa.PFnExactEngineOK
open Go.RowKit Go.Proofs.YtbikfhccfenkdaaW.PrintWords Go.Proofs.YtbikfhccfenkdaaW.PrintLast Go.Proofs.YtbikfhccfenkdaaW.PrintMore Go.Proofs.Ytbikfhccfenkdaa.Mac
attribute [local go_sem] max2_int min2_int max_two min_two max_three min_three max_four min_four
set_option linter.unusedVariables false
set_option linter.unusedSimpArgs false

/-! ### impl_readMutation: function 40 -/
mutual
def impl_readMutation.l0 : Nat → Int → Int → ByteArray → Bool → Int → Int → Int → Int → ByteArray → List (S86) → Option (Int × Int × Int × Int × ByteArray × (List (S86)) × Bool)
 | 0, _, _, _, _, _, _, _, _, _, _ => none
 | k + 1, x6, x8, x315000, x315001, x325000, x325001, x325002, x325003, x325004, x325005 => if x8 < x6 then (impl_readMutation.j1 k x6 x8 (!x315001) x315000 x315001 x325000 x325001 x325002 x325003 x325004 x325005) else (impl_readMutation.j1 k x6 x8 false x315000 x315001 x325000 x325001 x325002 x325003 x325004 x325005)
def impl_readMutation.j1 : Nat → Int → Int → Bool → ByteArray → Bool → Int → Int → Int → Int → ByteArray → List (S86) → Option (Int × Int × Int × Int × ByteArray × (List (S86)) × Bool)
 | 0, _, _, _, _, _, _, _, _, _, _, _ => none
 | k + 1, x6, x8, x35, x315000, x315001, x325000, x325001, x325002, x325003, x325004, x325005 => if x35 = true then ((impl_taker_number.f k x315000 x315001 2).bind fun bt338 => ((impl_taker_number.f k bt338.2.1 bt338.2.2 2).bind fun bt341 => ((impl_taker_text.f bt341.2.1 bt341.2.2 bt338.1).bind fun bt344 => ((impl_taker_text.f bt344.2.1 bt344.2.2 bt341.1).bind fun bt347 => (if x325005.length < 4398046511104 then (impl_readMutation.l0 k x6 (wrap64 (x8 + 1)) bt347.2.1 bt347.2.2 x325000 x325001 x325002 x325003 x325004 (x325005 ++ [(⟨bt344.1, bt347.1⟩ : S86)])) else (none)))))) else (if x315001 = true then (some (x325000, x325001, x325002, x325003, x325004, x325005, false)) else (if x315000.toList = ([] : List UInt8) then ((impl_MutationOK.f k x325000 x325001 x325002 x325003 x325004 x325005).bind fun t337 => (some (x325000, x325001, x325002, x325003, x325004, x325005, t337))) else (some (x325000, x325001, x325002, x325003, x325004, x325005, false))))
end
def impl_readMutation.f (k : Nat) (a0 : ByteArray) : Option (Int × Int × Int × Int × ByteArray × (List (S86)) × Bool) := if (a0.size : Int) > 20000 then (some (0, 0, 0, 0, (⟨#[]⟩ : ByteArray), ([] : List (S86)), false)) else ((impl_taker_number.f k a0 false 1).bind fun bt315 => ((impl_taker_number.f k bt315.2.1 bt315.2.2 1).bind fun bt318 => ((impl_taker_number.f k bt318.2.1 bt318.2.2 1).bind fun bt321 => ((impl_taker_number.f k bt321.2.1 bt321.2.2 1).bind fun bt325 => ((impl_taker_number.f k bt325.2.1 bt325.2.2 1).bind fun bt328 => ((impl_taker_number.f k bt328.2.1 bt328.2.2 2).bind fun bt331 => ((impl_taker_text.f bt331.2.1 bt331.2.2 bt328.1).bind fun bt334 => (impl_readMutation.l0 k bt325.1 0 bt334.2.1 bt334.2.2 bt315.1 bt331.1 bt318.1 bt321.1 bt334.1 ([] : List (S86))))))))))
theorem impl_readMutation.mono_l : ∀ k, (∀ y0 y1 y2 y3 y4 y5 y6 y7 y8 y9, LeO (impl_readMutation.l0 k y0 y1 y2 y3 y4 y5 y6 y7 y8 y9) (impl_readMutation.l0 (k + 1) y0 y1 y2 y3 y4 y5 y6 y7 y8 y9)) ∧ (∀ y0 y1 y2 y3 y4 y5 y6 y7 y8 y9 y10, LeO (impl_readMutation.j1 k y0 y1 y2 y3 y4 y5 y6 y7 y8 y9 y10) (impl_readMutation.j1 (k + 1) y0 y1 y2 y3 y4 y5 y6 y7 y8 y9 y10))
 | 0 => ⟨fun _ _ _ _ _ _ _ _ _ _ r h => by simp [impl_readMutation.l0] at h, fun _ _ _ _ _ _ _ _ _ _ _ r h => by simp [impl_readMutation.j1] at h⟩
 | k + 1 => by
  obtain ⟨ih0, ih1⟩ := impl_readMutation.mono_l k
  refine ⟨?_, ?_⟩
  ·intro y0 y1 y2 y3 y4 y5 y6 y7 y8 y9
   unfold impl_readMutation.l0
   have m0 := @impl_MutationOK.mono
   have m1 := @impl_taker_number.mono
   exact tM
  ·intro y0 y1 y2 y3 y4 y5 y6 y7 y8 y9 y10
   unfold impl_readMutation.j1
   have m0 := @impl_MutationOK.mono
   have m1 := @impl_taker_number.mono
   exact tM
theorem impl_readMutation.mono : ∀ a0 k, LeO (impl_readMutation.f k a0) (impl_readMutation.f (k + 1) a0) := by
 intro a0 k
 obtain ⟨ih0, ih1⟩ := impl_readMutation.mono_l k
 unfold impl_readMutation.f
 have m0 := @impl_MutationOK.mono
 have m1 := @impl_taker_number.mono
 exact tM
def impl_readMutation.T12 : Bool × List (List Nat × List Nat) := (true, [([], []), ([0], [0]), ([], []), ([2], [2]), ([], []), ([4, 3], [4]), ([3, 5], [3, 5]), ([6], [6]), ([1, 7, 5], [1, 7]), ([0, 1, 2, 3, 4, 5, 6, 7, 8], []), ([9, 8, 8, 0, 1, 2, 3, 4, 5, 6, 7, 8], [8, 9])])
def impl_readMutation.B12 : List Nat := [0, 1, 0, 4, 0, 28, 60, 124, 255, 511, 1023]
theorem impl_readMutation.tab12 : rtab .any (opsOf Try.f40 12) = impl_readMutation.T12 := by kernel_rfl
theorem impl_readMutation.bits12 : waitsOk impl_readMutation.T12.2 impl_readMutation.B12 = true := by kernel_rfl
def impl_readMutation.T13 : Bool × List (List Nat × List Nat) := (true, [([], []), ([], []), ([1], [1]), ([2], [2]), ([3], [3]), ([4], [4]), ([5, 4], [4, 5]), ([6, 4], [4, 6]), ([4, 7], [4, 7]), ([8, 4], [8]), ([9], [9]), ([10, 9, 9], [9, 10]), ([9, 11], [9, 11]), ([0, 11, 0], [0]), ([12, 13, 0, 1, 2, 3, 4, 5, 6, 7, 8, 9, 10, 11, 12, 13], [12])])
def impl_readMutation.B13 : List Nat := [0, 0, 2, 6, 14, 30, 62, 126, 254, 510, 1022, 2046, 4094, 4095, 16383]
theorem impl_readMutation.tab13 : rtab .any (opsOf Try.f40 13) = impl_readMutation.T13 := by kernel_rfl
theorem impl_readMutation.bits13 : waitsOk impl_readMutation.T13.2 impl_readMutation.B13 = true := by kernel_rfl
set_option maxHeartbeats 40000000 in
set_option maxRecDepth 100000 in
theorem impl_readMutation.calls (k : Nat) (a0 : ByteArray) (r1 : Int) (r2 : Int) (r3 : Int) (r4 : Int) (r5 : ByteArray) (r6 : List (S86)) (r7 : Bool) (w : World) (h : impl_readMutation.f k a0 = some (r1, r2, r3, r4, r5, r6, r7)) :
  Calls Try.prog 40 #[.string a0] w fun e w' => ∃ v5_ : Value, e = .returned (.tuple #[.agg #[.int .i64 r1, .int .i64 r2, .int .i64 r3, .int .i64 r4, .string r5, v5_], .bool r7]) ∧ Kd.R k86 86 w' w.heap.size (fun _ => True) v5_ r6 ∧ Below w.heap.size w w' := by
 have hu65 := Try.underlying65
 have hu98 := Try.underlying98
 have hu86 := Try.underlying86
 have HB := Aside0.mk (Below.refl w.heap.size w)
 have H : (if (a0.size : Int) > 20000 then (some (0, 0, 0, 0, (⟨#[]⟩ : ByteArray), ([] : List (S86)), false)) else ((impl_taker_number.f k a0 false 1).bind fun bt315 => ((impl_taker_number.f k bt315.2.1 bt315.2.2 1).bind fun bt318 => ((impl_taker_number.f k bt318.2.1 bt318.2.2 1).bind fun bt321 => ((impl_taker_number.f k bt321.2.1 bt321.2.2 1).bind fun bt325 => ((impl_taker_number.f k bt325.2.1 bt325.2.2 1).bind fun bt328 => ((impl_taker_number.f k bt328.2.1 bt328.2.2 2).bind fun bt331 => ((impl_taker_text.f bt331.2.1 bt331.2.2 bt328.1).bind fun bt334 => (impl_readMutation.l0 k bt325.1 0 bt334.2.1 bt334.2.2 bt315.1 bt331.1 bt318.1 bt321.1 bt334.1 ([] : List (S86))))))))))) = some (r1, r2, r3, r4, r5, r6, r7) := h
 clear h
 by_cases c2 : (a0.size : Int) > 20000
 ·rw [if_pos c2] at H
  have c2b0 : decide (20000 < (a0.size : Int)) = true := decide_eq_true c2
  have c2b1 : decide (20000 < a0.size) = true := decide_eq_true (Z43)
  clear c2
  simp only [Option.some.injEq, Prod.mk.injEq] at H
  obtain ⟨rfl, rfl, rfl, rfl, rfl, rfl, rfl⟩ := H
  go_enter Try.func40, Try.ntmps40
  go_wp2_with (first | ((with_reducible refine gate_dst (N := 2) rfl ?_); refine bxE 2 #[.int .i64 0, .int .i64 0, .int .i64 0, .int .i64 0, .string (⟨#[]⟩ : ByteArray), .slice none 0 0] 65 ?_; intro gb313 hg w3 hbox hb; have BK313 := Aside0.mk (hbox); have GW313 := Aside0.mk ((szE w hg (Z0))); have GE313 := Aside0.mk ((szE w hg (Z0))); replace HB := Aside0.mk (below_step (Z0) hb); clear hb hbox hg; obtain ⟨hcz4_0, hcz4_1, hcz4_2, hcz4_3, hcz4_4, hcz4_5⟩ := bc6 BK313.out; obtain ⟨hfz4_0, hfz4_1, hfz4_2, hfz4_3, hfz4_4, hfz4_5⟩ := bf6 BK313.out))
  refine bodyPost_ret (results_ct rfl _ _ gb313 65 #[.int .i64 0, .int .i64 0, .int .i64 0, .int .i64 0, .string (⟨#[]⟩ : ByteArray), .slice none 0 0] (0, 0) _ rfl (by (with_reducible repeat (first | refine blk_drewN ?_ _ | refine blk_drew ?_ | refine blk_alloc ?_ _)); refine blk_put (cs := #[.int .i64 0, .int .i64 0, .int .i64 0, .int .i64 0, .string (⟨#[]⟩ : ByteArray), .slice none 0 0]) ?_ 5 _ rfl; (with_reducible repeat (first | refine blk_drewN ?_ _ | refine blk_drew ?_ | refine blk_alloc ?_ _)); refine blk_put (cs := #[.int .i64 0, .int .i64 0, .int .i64 0, .int .i64 0, .string (⟨#[]⟩ : ByteArray), .slice none 0 0]) ?_ 4 _ rfl; (with_reducible repeat (first | refine blk_drewN ?_ _ | refine blk_drew ?_ | refine blk_alloc ?_ _)); refine blk_put (cs := #[.int .i64 0, .int .i64 0, .int .i64 0, .int .i64 0, .string (⟨#[]⟩ : ByteArray), .slice none 0 0]) ?_ 3 _ rfl; (with_reducible repeat (first | refine blk_drewN ?_ _ | refine blk_drew ?_ | refine blk_alloc ?_ _)); refine blk_put (cs := #[.int .i64 0, .int .i64 0, .int .i64 0, .int .i64 0, .string (⟨#[]⟩ : ByteArray), .slice none 0 0]) ?_ 2 _ rfl; (with_reducible repeat (first | refine blk_drewN ?_ _ | refine blk_drew ?_ | refine blk_alloc ?_ _)); refine blk_put (cs := #[.int .i64 0, .int .i64 0, .int .i64 0, .int .i64 0, .string (⟨#[]⟩ : ByteArray), .slice none 0 0]) ?_ 1 _ rfl; (with_reducible repeat (first | refine blk_drewN ?_ _ | refine blk_drew ?_ | refine blk_alloc ?_ _)); refine blk_put (cs := #[.int .i64 0, .int .i64 0, .int .i64 0, .int .i64 0, .string (⟨#[]⟩ : ByteArray), .slice none 0 0]) ?_ 0 _ rfl; (with_reducible repeat (first | refine blk_drewN ?_ _ | refine blk_drew ?_ | refine blk_alloc ?_ _)); exact BK313.out) Try.underlying65 rfl (Z24)) rfl ?_
  exact ⟨_, Z2, Z90, Z78⟩
 ·rw [if_neg c2] at H
  have c2b0 : decide (20000 < (a0.size : Int)) = false := decide_eq_false c2
  have c2b1 : decide (20000 < a0.size) = false := decide_eq_false (Z43)
  clear c2
  obtain ⟨⟨t315, t316, t317⟩, A5, H⟩ := bindA H
  try dsimp only at H
  obtain ⟨⟨t318, t319, t320⟩, A6, H⟩ := bindA H
  try dsimp only at H
  obtain ⟨⟨t321, t322, t323⟩, A7, H⟩ := bindA H
  try dsimp only at H
  obtain ⟨⟨t325, t326, t327⟩, A8, H⟩ := bindA H
  try dsimp only at H
  obtain ⟨⟨t328, t329, t330⟩, A9, H⟩ := bindA H
  try dsimp only at H
  obtain ⟨⟨t331, t332, t333⟩, A10, H⟩ := bindA H
  try dsimp only at H
  obtain ⟨⟨t334, t335, t336⟩, A11, H⟩ := bindA H
  try dsimp only at H
  have H' := Aside0.mk H
  clear H
  go_enter Try.func40, Try.ntmps40
  go_wp2_with (first | ((with_reducible refine gate_dst (N := 2) rfl ?_); refine bxE 2 #[.int .i64 0, .int .i64 0, .int .i64 0, .int .i64 0, .string (⟨#[]⟩ : ByteArray), .slice none 0 0] 65 ?_; intro gb313 hg w12 hbox hb; have BK313 := Aside0.mk (hbox); have GW313 := Aside0.mk ((szE w hg (Z0))); have GE313 := Aside0.mk ((szE w hg (Z0))); replace HB := Aside0.mk (below_step (Z0) hb); clear hb hbox hg) | ((with_reducible refine gate_dst (N := 4) rfl ?_); refine bxE 4 #[.string (⟨#[]⟩ : ByteArray), .bool false] 98 ?_; intro gb314 hg w13 hbox hb; have HI314 := Aside0.mk ((show IsS98 w _ gb314 (⟨#[]⟩ : ByteArray) false from ⟨hbox, (szE w hg (Z78))⟩)); have GW314 := Aside0.mk ((szE w hg (Z78))); have GE314 := Aside0.mk ((szE w hg (Z78))); replace HB := Aside0.mk (below_step (Z78) hb); have NB313_314 := Aside0.mk ((nL BK313 hg (Z38))); have NB314_313 := Aside0.mk ((nG BK313 hg (Z38))); replace BK313 := Aside0.mk (kB BK313 (Z38) hb); clear hb hbox hg; obtain ⟨HGz14, hgz14⟩ := HI314.out; have hcz14_0 := cellS98_0 HGz14; have hcz14_1 := cellS98_1 HGz14; have hfz14_0 := blk_frozen HGz14 0; have hfz14_1 := blk_frozen HGz14 1; clear HGz14 hgz14) | ((with_reducible refine gate_callee (f := 67) rfl ?_); refine goesL_ (some 17) rfl rfl Try.func67 (Z24) rfl #[.pointer (some ⟨gb314, 0, none⟩), .int .i64 1] rfl (Z1) ?_; (with_reducible refine (impl_taker_number.calls k gb314 a0 false 1 t315 t316 t317 w _ ?side1 ?side2 A5.out).mono ?_); (case side1 => repeat (first | (with_reducible first | exact HI314.out | apply IsS98.alloc | apply IsS98.drewN | apply IsS98.drew | apply IsS98.set_0 | apply IsS98.set_1 | refine IsS98.far ?_ NB314_313.out _) | exact HI314.out)); (case side2 => repeat (first | (with_reducible first | exact HB.out | apply below_alloc | apply pw_below_drewN | apply below_drew1 | refine below_set ?_ (IsS98.ge HI314.out) | refine below_set ?_ GE313.out) | exact HB.out)); rintro e w15 ⟨rfl, hi, hb, hk⟩; refine ⟨_, rfl, ?_⟩; replace BK313 := Aside0.mk (KeepBut.blk hk (g' := gb313) (o := .cells #[.int .i64 0, .int .i64 0, .int .i64 0, .int .i64 0, .string (⟨#[]⟩ : ByteArray), .slice none 0 0] 65 (0, 0)) (by (with_reducible repeat (first | refine blk_drewN ?_ _ | refine blk_drew ?_ | refine blk_alloc ?_ _)); refine blk_far ?_ NB313_314.out _; (with_reducible repeat (first | refine blk_drewN ?_ _ | refine blk_drew ?_ | refine blk_alloc ?_ _)); refine blk_far ?_ NB313_314.out _; (with_reducible repeat (first | refine blk_drewN ?_ _ | refine blk_drew ?_ | refine blk_alloc ?_ _)); exact BK313.out) NB313_314.out (Z124)); replace HB := Aside0.mk (hb); replace HI314 := Aside0.mk (hi); (try clear hb); (try clear hk); (try clear hi)) | ((with_reducible refine gate_callee (f := 67) rfl ?_); refine goesL_ (some 18) rfl rfl Try.func67 (Z24) rfl #[.pointer (some ⟨gb314, 0, none⟩), .int .i64 1] rfl (Z1) ?_; (with_reducible refine (impl_taker_number.calls k gb314 t316 t317 1 t318 t319 t320 w _ ?side1 ?side2 A6.out).mono ?_); (case side1 => repeat (first | (with_reducible first | exact HI314.out | apply IsS98.alloc | apply IsS98.drewN | apply IsS98.drew | apply IsS98.set_0 | apply IsS98.set_1 | refine IsS98.far ?_ NB314_313.out _) | exact HI314.out)); (case side2 => repeat (first | (with_reducible first | exact HB.out | apply below_alloc | apply pw_below_drewN | apply below_drew1 | refine below_set ?_ (IsS98.ge HI314.out) | refine below_set ?_ GE313.out) | exact HB.out)); rintro e w16 ⟨rfl, hi, hb, hk⟩; refine ⟨_, rfl, ?_⟩; replace BK313 := Aside0.mk (KeepBut.blk hk (g' := gb313) (o := .cells #[.int .i64 0, .int .i64 0, .int .i64 0, .int .i64 0, .string (⟨#[]⟩ : ByteArray), .slice none 0 0] 65 (0, 0)) (Z38) NB313_314.out (Z124)); replace HB := Aside0.mk (hb); replace HI314 := Aside0.mk (hi); (try clear hb); (try clear hk); (try clear hi)) | ((with_reducible refine gate_callee (f := 67) rfl ?_); refine goesL_ (some 19) rfl rfl Try.func67 (Z24) rfl #[.pointer (some ⟨gb314, 0, none⟩), .int .i64 1] rfl (Z1) ?_; (with_reducible refine (impl_taker_number.calls k gb314 t319 t320 1 t321 t322 t323 w _ ?side1 ?side2 A7.out).mono ?_); (case side1 => repeat (first | (with_reducible first | exact HI314.out | apply IsS98.alloc | apply IsS98.drewN | apply IsS98.drew | apply IsS98.set_0 | apply IsS98.set_1 | refine IsS98.far ?_ NB314_313.out _) | exact HI314.out)); (case side2 => repeat (first | (with_reducible first | exact HB.out | apply below_alloc | apply pw_below_drewN | apply below_drew1 | refine below_set ?_ (IsS98.ge HI314.out) | refine below_set ?_ GE313.out) | exact HB.out)); rintro e w17 ⟨rfl, hi, hb, hk⟩; refine ⟨_, rfl, ?_⟩; replace BK313 := Aside0.mk (KeepBut.blk hk (g' := gb313) (o := .cells #[.int .i64 0, .int .i64 0, .int .i64 0, .int .i64 0, .string (⟨#[]⟩ : ByteArray), .slice none 0 0] 65 (0, 0)) (Z38) NB313_314.out (Z124)); replace HB := Aside0.mk (hb); replace HI314 := Aside0.mk (hi); (try clear hb); (try clear hk); (try clear hi)) | ((with_reducible refine gate_dst (N := 5) rfl ?_); refine bxE 5 #[.int .i64 0, .int .i64 0, .int .i64 0, .int .i64 0, .string (⟨#[]⟩ : ByteArray), .slice none 0 0] 65 ?_; intro gb324 hg w18 hbox hb; have BK324 := Aside0.mk (hbox); have GW324 := Aside0.mk ((szE w hg (Z94))); have GE324 := Aside0.mk ((szE w hg (Z94))); replace HB := Aside0.mk (below_step (Z94) hb); have NB313_324 := Aside0.mk ((nL BK313 hg (Z38))); have NB324_313 := Aside0.mk ((nG BK313 hg (Z38))); replace BK313 := Aside0.mk (kB BK313 (Z38) hb); have NB314_324 := Aside0.mk ((by rw [hg]; exact Nat.ne_of_lt (IsS98.lt (show IsS98 w _ gb314 t322 t323 from by repeat (first | (with_reducible first | exact HI314.out | apply IsS98.alloc | apply IsS98.drewN | apply IsS98.drew | apply IsS98.set_0 | apply IsS98.set_1 | refine IsS98.far ?_ NB314_313.out _) | exact HI314.out))) : gb314 ≠ gb324)); have NB324_314 := Aside0.mk ((by rw [hg]; exact Nat.ne_of_gt (IsS98.lt (show IsS98 w _ gb314 t322 t323 from by repeat (first | (with_reducible first | exact HI314.out | apply IsS98.alloc | apply IsS98.drewN | apply IsS98.drew | apply IsS98.set_0 | apply IsS98.set_1 | refine IsS98.far ?_ NB314_313.out _) | exact HI314.out))) : gb324 ≠ gb314)); replace HI314 := Aside0.mk (IsS98.below (by repeat (first | (with_reducible first | exact HI314.out | apply IsS98.alloc | apply IsS98.drewN | apply IsS98.drew | apply IsS98.set_0 | apply IsS98.set_1 | refine IsS98.far ?_ NB314_313.out _) | exact HI314.out)) hb); clear hb hbox hg; have hnb19 := NB324_313.out; have hnc19 := NB313_324.out; have hnb20 := NB324_314.out; have hnc20 := NB314_324.out; obtain ⟨hcz21_0, hcz21_1, hcz21_2, hcz21_3, hcz21_4, hcz21_5⟩ := bc6 BK324.out; obtain ⟨hfz21_0, hfz21_1, hfz21_2, hfz21_3, hfz21_4, hfz21_5⟩ := bf6 BK324.out) | ((with_reducible refine gate_callee (f := 67) rfl ?_); refine goesL_ (some 21) rfl rfl Try.func67 (Z24) rfl #[.pointer (some ⟨gb314, 0, none⟩), .int .i64 1] rfl (Z1) ?_; (with_reducible refine (impl_taker_number.calls k gb314 t322 t323 1 t325 t326 t327 w _ ?side1 ?side2 A8.out).mono ?_); (case side1 => repeat (first | (with_reducible first | exact HI314.out | apply IsS98.alloc | apply IsS98.drewN | apply IsS98.drew | apply IsS98.set_0 | apply IsS98.set_1 | refine IsS98.far ?_ NB314_313.out _ | refine IsS98.far ?_ NB314_324.out _) | exact HI314.out)); (case side2 => repeat (first | (with_reducible first | exact HB.out | apply below_alloc | apply pw_below_drewN | apply below_drew1 | refine below_set ?_ (IsS98.ge HI314.out) | refine below_set ?_ GE313.out | refine below_set ?_ GE324.out) | exact HB.out)); rintro e w22 ⟨rfl, hi, hb, hk⟩; refine ⟨_, rfl, ?_⟩; replace BK313 := Aside0.mk (KeepBut.blk hk (g' := gb313) (o := .cells #[.int .i64 0, .int .i64 0, .int .i64 0, .int .i64 0, .string (⟨#[]⟩ : ByteArray), .slice none 0 0] 65 (0, 0)) (by (with_reducible repeat (first | refine blk_drewN ?_ _ | refine blk_drew ?_ | refine blk_alloc ?_ _)); refine blk_far ?_ NB313_324.out _; (with_reducible repeat (first | refine blk_drewN ?_ _ | refine blk_drew ?_ | refine blk_alloc ?_ _)); refine blk_far ?_ NB313_324.out _; (with_reducible repeat (first | refine blk_drewN ?_ _ | refine blk_drew ?_ | refine blk_alloc ?_ _)); refine blk_far ?_ NB313_324.out _; (with_reducible repeat (first | refine blk_drewN ?_ _ | refine blk_drew ?_ | refine blk_alloc ?_ _)); refine blk_far ?_ NB313_324.out _; (with_reducible repeat (first | refine blk_drewN ?_ _ | refine blk_drew ?_ | refine blk_alloc ?_ _)); refine blk_far ?_ NB313_324.out _; (with_reducible repeat (first | refine blk_drewN ?_ _ | refine blk_drew ?_ | refine blk_alloc ?_ _)); refine blk_far ?_ NB313_324.out _; (with_reducible repeat (first | refine blk_drewN ?_ _ | refine blk_drew ?_ | refine blk_alloc ?_ _)); exact BK313.out) NB313_314.out (Z124)); replace BK324 := Aside0.mk (KeepBut.blk hk (g' := gb324) (o := .cells #[.int .i64 t315, .int .i64 0, .int .i64 t318, .int .i64 t321, .string (⟨#[]⟩ : ByteArray), .slice none 0 0] 65 (0, 0)) (by (with_reducible repeat (first | refine blk_drewN ?_ _ | refine blk_drew ?_ | refine blk_alloc ?_ _)); refine blk_put (cs := #[.int .i64 t315, .int .i64 0, .int .i64 t318, .int .i64 t321, .string (⟨#[]⟩ : ByteArray), .slice none 0 0]) ?_ 5 _ rfl; (with_reducible repeat (first | refine blk_drewN ?_ _ | refine blk_drew ?_ | refine blk_alloc ?_ _)); refine blk_put (cs := #[.int .i64 t315, .int .i64 0, .int .i64 t318, .int .i64 t321, .string (⟨#[]⟩ : ByteArray), .slice none 0 0]) ?_ 4 _ rfl; (with_reducible repeat (first | refine blk_drewN ?_ _ | refine blk_drew ?_ | refine blk_alloc ?_ _)); refine blk_put (cs := #[.int .i64 t315, .int .i64 0, .int .i64 t318, .int .i64 0, .string (⟨#[]⟩ : ByteArray), .slice none 0 0]) ?_ 3 _ rfl; (with_reducible repeat (first | refine blk_drewN ?_ _ | refine blk_drew ?_ | refine blk_alloc ?_ _)); refine blk_put (cs := #[.int .i64 t315, .int .i64 0, .int .i64 0, .int .i64 0, .string (⟨#[]⟩ : ByteArray), .slice none 0 0]) ?_ 2 _ rfl; (with_reducible repeat (first | refine blk_drewN ?_ _ | refine blk_drew ?_ | refine blk_alloc ?_ _)); refine blk_put (cs := #[.int .i64 t315, .int .i64 0, .int .i64 0, .int .i64 0, .string (⟨#[]⟩ : ByteArray), .slice none 0 0]) ?_ 1 _ rfl; (with_reducible repeat (first | refine blk_drewN ?_ _ | refine blk_drew ?_ | refine blk_alloc ?_ _)); refine blk_put (cs := #[.int .i64 0, .int .i64 0, .int .i64 0, .int .i64 0, .string (⟨#[]⟩ : ByteArray), .slice none 0 0]) ?_ 0 _ rfl; (with_reducible repeat (first | refine blk_drewN ?_ _ | refine blk_drew ?_ | refine blk_alloc ?_ _)); exact BK324.out) NB324_314.out (Z124)); replace HB := Aside0.mk (hb); replace HI314 := Aside0.mk (hi); (try clear hb); (try clear hk); (try clear hi)) | ((with_reducible refine gate_callee (f := 67) rfl ?_); refine goesL_ (some 22) rfl rfl Try.func67 (Z24) rfl #[.pointer (some ⟨gb314, 0, none⟩), .int .i64 1] rfl (Z1) ?_; (with_reducible refine (impl_taker_number.calls k gb314 t326 t327 1 t328 t329 t330 w _ ?side1 ?side2 A9.out).mono ?_); (case side1 => repeat (first | (with_reducible first | exact HI314.out | apply IsS98.alloc | apply IsS98.drewN | apply IsS98.drew | apply IsS98.set_0 | apply IsS98.set_1 | refine IsS98.far ?_ NB314_313.out _ | refine IsS98.far ?_ NB314_324.out _) | exact HI314.out)); (case side2 => repeat (first | (with_reducible first | exact HB.out | apply below_alloc | apply pw_below_drewN | apply below_drew1 | refine below_set ?_ (IsS98.ge HI314.out) | refine below_set ?_ GE313.out | refine below_set ?_ GE324.out) | exact HB.out)); rintro e w23 ⟨rfl, hi, hb, hk⟩; refine ⟨_, rfl, ?_⟩; replace BK313 := Aside0.mk (KeepBut.blk hk (g' := gb313) (o := .cells #[.int .i64 0, .int .i64 0, .int .i64 0, .int .i64 0, .string (⟨#[]⟩ : ByteArray), .slice none 0 0] 65 (0, 0)) (Z38) NB313_314.out (Z124)); replace BK324 := Aside0.mk (KeepBut.blk hk (g' := gb324) (o := .cells #[.int .i64 t315, .int .i64 0, .int .i64 t318, .int .i64 t321, .string (⟨#[]⟩ : ByteArray), .slice none 0 0] 65 (0, 0)) (Z65) NB324_314.out (Z124)); replace HB := Aside0.mk (hb); replace HI314 := Aside0.mk (hi); (try clear hb); (try clear hk); (try clear hi)) | ((with_reducible refine gate_callee (f := 67) rfl ?_); refine goesL_ (some 23) rfl rfl Try.func67 (Z24) rfl #[.pointer (some ⟨gb314, 0, none⟩), .int .i64 2] rfl (Z1) ?_; (with_reducible refine (impl_taker_number.calls k gb314 t329 t330 2 t331 t332 t333 w _ ?side1 ?side2 A10.out).mono ?_); (case side1 => repeat (first | (with_reducible first | exact HI314.out | apply IsS98.alloc | apply IsS98.drewN | apply IsS98.drew | apply IsS98.set_0 | apply IsS98.set_1 | refine IsS98.far ?_ NB314_313.out _ | refine IsS98.far ?_ NB314_324.out _) | exact HI314.out)); (case side2 => repeat (first | (with_reducible first | exact HB.out | apply below_alloc | apply pw_below_drewN | apply below_drew1 | refine below_set ?_ (IsS98.ge HI314.out) | refine below_set ?_ GE313.out | refine below_set ?_ GE324.out) | exact HB.out)); rintro e w24 ⟨rfl, hi, hb, hk⟩; refine ⟨_, rfl, ?_⟩; replace BK313 := Aside0.mk (KeepBut.blk hk (g' := gb313) (o := .cells #[.int .i64 0, .int .i64 0, .int .i64 0, .int .i64 0, .string (⟨#[]⟩ : ByteArray), .slice none 0 0] 65 (0, 0)) (Z38) NB313_314.out (Z124)); replace BK324 := Aside0.mk (KeepBut.blk hk (g' := gb324) (o := .cells #[.int .i64 t315, .int .i64 0, .int .i64 t318, .int .i64 t321, .string (⟨#[]⟩ : ByteArray), .slice none 0 0] 65 (0, 0)) (Z65) NB324_314.out (Z124)); replace HB := Aside0.mk (hb); replace HI314 := Aside0.mk (hi); (try clear hb); (try clear hk); (try clear hi); obtain ⟨hcz25_0, hcz25_1, hcz25_2, hcz25_3, hcz25_4, hcz25_5⟩ := bc6 BK324.out; obtain ⟨hfz25_0, hfz25_1, hfz25_2, hfz25_3, hfz25_4, hfz25_5⟩ := bf6 BK324.out) | ((with_reducible refine gate_callee (f := 68) rfl ?_); refine goesL_ (some 26) rfl rfl Try.func68 (Z24) rfl #[.pointer (some ⟨gb314, 0, none⟩), .int .i64 t328] rfl (Z1) ?_; (with_reducible refine (impl_taker_text.calls gb314 t332 t333 t328 t334 t335 t336 w _ ?side1 ?side2 A11.out).mono ?_); (case side1 => repeat (first | (with_reducible first | exact HI314.out | apply IsS98.alloc | apply IsS98.drewN | apply IsS98.drew | apply IsS98.set_0 | apply IsS98.set_1 | refine IsS98.far ?_ NB314_313.out _ | refine IsS98.far ?_ NB314_324.out _) | exact HI314.out)); (case side2 => repeat (first | (with_reducible first | exact HB.out | apply below_alloc | apply pw_below_drewN | apply below_drew1 | refine below_set ?_ (IsS98.ge HI314.out) | refine below_set ?_ GE313.out | refine below_set ?_ GE324.out) | exact HB.out)); rintro e w26 ⟨rfl, hi, hb, hk⟩; refine ⟨_, rfl, ?_⟩; replace BK313 := Aside0.mk (KeepBut.blk hk (g' := gb313) (o := .cells #[.int .i64 0, .int .i64 0, .int .i64 0, .int .i64 0, .string (⟨#[]⟩ : ByteArray), .slice none 0 0] 65 (0, 0)) (Z83) NB313_314.out (Z124)); replace BK324 := Aside0.mk (KeepBut.blk hk (g' := gb324) (o := .cells #[.int .i64 t315, .int .i64 t331, .int .i64 t318, .int .i64 t321, .string (⟨#[]⟩ : ByteArray), .slice none 0 0] 65 (0, 0)) (by (with_reducible repeat (first | refine blk_drewN ?_ _ | refine blk_drew ?_ | refine blk_alloc ?_ _)); refine blk_put (cs := #[.int .i64 t315, .int .i64 0, .int .i64 t318, .int .i64 t321, .string (⟨#[]⟩ : ByteArray), .slice none 0 0]) ?_ 1 _ rfl; (with_reducible repeat (first | refine blk_drewN ?_ _ | refine blk_drew ?_ | refine blk_alloc ?_ _)); exact BK324.out) NB324_314.out (Z124)); replace HB := Aside0.mk (hb); replace HI314 := Aside0.mk (hi); (try clear hb); (try clear hk); (try clear hi); obtain ⟨hcz27_0, hcz27_1, hcz27_2, hcz27_3, hcz27_4, hcz27_5⟩ := bc6 BK324.out; obtain ⟨hfz27_0, hfz27_1, hfz27_2, hfz27_3, hfz27_4, hfz27_5⟩ := bf6 BK324.out))
  go_loopg [8] k (fun kq v8 w' => ∃ (x8_1 : Int) (x325005_1 : List (S86)) (u325005 : Value) (t335 : ByteArray) (t336 : Bool), v8 = .int .i64 x8_1 ∧ Aside0 (impl_readMutation.l0 kq t325 x8_1 t335 t336 t315 t331 t318 t321 t334 x325005_1 = some (r1, r2, r3, r4, r5, r6, r7)) ∧ Aside0 (kq ≤ k) ∧ Aside0 (Kd.R k86 86 w' w.heap.size (fun _ => True) u325005 x325005_1) ∧ Aside0 (w'.heap[gb313]? = some (.cells #[.int .i64 0, .int .i64 0, .int .i64 0, .int .i64 0, .string (⟨#[]⟩ : ByteArray), (.slice none 0 0)] 65 (0, 0))) ∧ Aside0 (w'.heap[gb324]? = some (.cells #[.int .i64 t315, .int .i64 t331, .int .i64 t318, .int .i64 t321, .string t334, u325005] 65 (0, 0))) ∧ Aside0 (IsS98 w w' gb314 t335 t336) ∧ Aside0 (Below w.heap.size w w'))
  case atStart => exact ⟨(0), (([] : List (S86))), (.slice none 0 0), (t335), (t336), (Z3), H', ⟨Nat.le_refl _⟩, ⟨Z90⟩, ⟨Z83⟩, ⟨by (with_reducible repeat (first | refine blk_drewN ?_ _ | refine blk_drew ?_ | refine blk_alloc ?_ _)); refine blk_put (cs := #[.int .i64 t315, .int .i64 t331, .int .i64 t318, .int .i64 t321, .string (⟨#[]⟩ : ByteArray), .slice none 0 0]) ?_ 4 _ rfl; (with_reducible repeat (first | refine blk_drewN ?_ _ | refine blk_drew ?_ | refine blk_alloc ?_ _)); exact BK324.out⟩, ⟨Z58⟩, ⟨Z36⟩⟩
  case round =>
   clear H'
   (try clear c2); (try clear c2b0); (try clear c2b1); (try clear hcz14_0); (try clear hcz14_1); (try clear hcz21_0); (try clear hcz21_1); (try clear hcz21_2); (try clear hcz21_3); (try clear hcz21_4); (try clear hcz21_5); (try clear hcz25_0); (try clear hcz25_1); (try clear hcz25_2); (try clear hcz25_3); (try clear hcz25_4); (try clear hcz25_5); (try clear hcz27_0); (try clear hcz27_1); (try clear hcz27_2); (try clear hcz27_3); (try clear hcz27_4); (try clear hcz27_5); (try clear hfz14_0); (try clear hfz14_1); (try clear hfz21_0); (try clear hfz21_1); (try clear hfz21_2); (try clear hfz21_3); (try clear hfz21_4); (try clear hfz21_5); (try clear hfz25_0); (try clear hfz25_1); (try clear hfz25_2); (try clear hfz25_3); (try clear hfz25_4); (try clear hfz25_5); (try clear hfz27_0); (try clear hfz27_1); (try clear hfz27_2); (try clear hfz27_3); (try clear hfz27_4); (try clear hfz27_5)
   obtain ⟨x8_1, x325005_1, u325005, t335, t336, rfl, HA, HK1, HO_325005, BK313, BK324, HI314, HB⟩ := hrel
   cases gk with
   | zero => exact absurd HA.out (by simp [impl_readMutation.l0])
   | succ k1 =>
    have H := HA.out
    clear HA
    simp only [impl_readMutation.l0] at H
    have HC28 := Aside0.mk H
    clear H
    go_upto_region 9 with (fail)
    go_cut [35] (fun v35 wc => ∃ (kq : Nat) (x35_27 : Bool), v35 = .bool x35_27 ∧ Aside0 (impl_readMutation.j1 kq t325 x8_1 x35_27 t335 t336 t315 t331 t318 t321 t334 x325005_1 = some (r1, r2, r3, r4, r5, r6, r7)) ∧ Aside0 (kq ≤ k1) ∧ Aside0 (Kd.R k86 86 wc w.heap.size (fun _ => True) u325005 x325005_1) ∧ Aside0 (wc.heap[gb313]? = some (.cells #[.int .i64 0, .int .i64 0, .int .i64 0, .int .i64 0, .string (⟨#[]⟩ : ByteArray), (.slice none 0 0)] 65 (0, 0))) ∧ Aside0 (wc.heap[gb324]? = some (.cells #[.int .i64 t315, .int .i64 t331, .int .i64 t318, .int .i64 t321, .string t334, u325005] 65 (0, 0))) ∧ Aside0 (IsS98 w wc gb314 t335 t336) ∧ Aside0 (Below w.heap.size w wc))
    case first =>
     have H := HC28.out
     clear HC28
     by_cases c29 : x8_1 < t325
     ·rw [if_pos c29] at H
      have c29b0 := decide_eq_true c29
      clear c29
      (first | rw [c29b0] | rw [c29b1] | (simp only [i64_w, i32_w]; rw [c29b0]) | skip)
      have H' := Aside0.mk H
      clear H
      obtain ⟨HGz30, hgz30⟩ := HI314.out
      have hcz30_0 := cellS98_0 HGz30
      have hcz30_1 := cellS98_1 HGz30
      have hfz30_0 := blk_frozen HGz30 0
      have hfz30_1 := blk_frozen HGz30 1
      clear HGz30 hgz30
      go_wp2
      go_meet
      case rel => exact ⟨_, (!t336), (Z3), H', ⟨Z125⟩, ⟨Z75⟩, ⟨Z38⟩, ⟨Z65⟩, ⟨Z58⟩, ⟨Z36⟩⟩
     ·rw [if_neg c29] at H
      have c29b0 := decide_eq_false c29
      clear c29
      (first | rw [c29b0] | rw [c29b1] | (simp only [i64_w, i32_w]; rw [c29b0]) | skip)
      have H' := Aside0.mk H
      clear H
      go_wp2
      go_meet
      case rel => exact ⟨_, (false), (Z3), H', ⟨Z125⟩, ⟨Z75⟩, ⟨Z38⟩, ⟨Z65⟩, ⟨Z58⟩, ⟨Z36⟩⟩
    case rest =>
     clear HC28
     (try clear c2); (try clear c2b0); (try clear c2b1); (try clear hcz14_0); (try clear hcz14_1); (try clear hcz21_0); (try clear hcz21_1); (try clear hcz21_2); (try clear hcz21_3); (try clear hcz21_4); (try clear hcz21_5); (try clear hcz25_0); (try clear hcz25_1); (try clear hcz25_2); (try clear hcz25_3); (try clear hcz25_4); (try clear hcz25_5); (try clear hcz27_0); (try clear hcz27_1); (try clear hcz27_2); (try clear hcz27_3); (try clear hcz27_4); (try clear hcz27_5); (try clear hfz14_0); (try clear hfz14_1); (try clear hfz21_0); (try clear hfz21_1); (try clear hfz21_2); (try clear hfz21_3); (try clear hfz21_4); (try clear hfz21_5); (try clear hfz25_0); (try clear hfz25_1); (try clear hfz25_2); (try clear hfz25_3); (try clear hfz25_4); (try clear hfz25_5); (try clear hfz27_0); (try clear hfz27_1); (try clear hfz27_2); (try clear hfz27_3); (try clear hfz27_4); (try clear hfz27_5)
     obtain ⟨kq, x35_27, rfl, HA, HJ27, HO_325005, BK313, BK324, HI314, HB⟩ := hcut
     cases kq with
     | zero => exact absurd HA.out (by simp [impl_readMutation.j1])
     | succ kj27 =>
      have H := HA.out
      clear HA
      simp only [impl_readMutation.j1] at H
      by_cases c31 : x35_27 = true
      ·subst c31
       replace H := ifT H
       obtain ⟨⟨t338, t339, t340⟩, A32, H⟩ := bindA H
       try dsimp only at H
       obtain ⟨⟨t341, t342, t343⟩, A33, H⟩ := bindA H
       try dsimp only at H
       obtain ⟨⟨t344, t345, t346⟩, A34, H⟩ := bindA H
       try dsimp only at H
       obtain ⟨⟨t347, t348, t349⟩, A35, H⟩ := bindA H
       try dsimp only at H
       obtain ⟨c36, H⟩ := ifS H
       have LMc36 := Aside0.mk c36
       clear c36
       obtain ⟨y350, hy350⟩ : ∃ y_ : List (S86), y_ = (x325005_1 ++ [(⟨t344, t347⟩ : S86)]) := ⟨_, rfl⟩
       replace H : (impl_readMutation.l0 kj27 t325 (wrap64 (x8_1 + 1)) t348 t349 t315 t331 t318 t321 t334 y350) = some (r1, r2, r3, r4, r5, r6, r7) := by first | (rw [hy350]; with_reducible exact H) | (have H2_ := (Option.bind_some _ _).symm.trans H; rw [hy350]; with_reducible exact H2_) | (have H2_ := (Option.bind_some _ _).symm.trans H; with_reducible exact H2_) | with_reducible exact H | (rw [hy350]; exact H) | exact H
       have Ny350 := Aside0.mk hy350
       clear hy350
       have H' := Aside0.mk H
       clear H
       try go_wp2_with (first | ((with_reducible refine gate_callee (f := 67) rfl ?_); refine goesL_ (some 38) rfl rfl Try.func67 (Z24) rfl #[.pointer (some ⟨gb314, 0, none⟩), .int .i64 2] rfl (Z1) ?_; (with_reducible refine (impl_taker_number.calls kj27 gb314 t335 t336 2 t338 t339 t340 w _ ?side1 ?side2 A32.out).mono ?_); (case side1 => repeat (first | (with_reducible first | exact HI314.out | apply IsS98.alloc | apply IsS98.drewN | apply IsS98.drew | apply IsS98.set_0 | apply IsS98.set_1 | refine IsS98.far ?_ NB314_313.out _ | refine IsS98.far ?_ NB314_324.out _) | exact HI314.out)); (case side2 => repeat (first | (with_reducible first | exact HB.out | apply below_alloc | apply pw_below_drewN | apply below_drew1 | refine below_set ?_ (IsS98.ge HI314.out) | refine below_set ?_ GE313.out | refine below_set ?_ GE324.out) | exact HB.out)); rintro e w37 ⟨rfl, hi, hb, hk⟩; refine ⟨_, rfl, ?_⟩; replace HO_325005 := Aside0.mk (Kd.R_mono (Kd.R_keep (IsS98.apart (show IsS98 w _ gb314 t335 t336 from by repeat (first | (with_reducible first | exact HI314.out | apply IsS98.alloc | apply IsS98.drewN | apply IsS98.drew | apply IsS98.set_0 | apply IsS98.set_1 | refine IsS98.far ?_ NB314_313.out _ | refine IsS98.far ?_ NB314_324.out _) | exact HI314.out)) (Z75) (Z79)) hk (fun _ h => h.2)) (fun _ h => h.1)); replace BK313 := Aside0.mk (KeepBut.blk hk (g' := gb313) (o := .cells #[.int .i64 0, .int .i64 0, .int .i64 0, .int .i64 0, .string (⟨#[]⟩ : ByteArray), .slice none 0 0] 65 (0, 0)) (Z38) NB313_314.out (Z124)); replace BK324 := Aside0.mk (KeepBut.blk hk (g' := gb324) (o := .cells #[.int .i64 t315, .int .i64 t331, .int .i64 t318, .int .i64 t321, .string t334, u325005] 65 (0, 0)) (Z65) NB324_314.out (Z124)); replace HB := Aside0.mk (hb); replace HI314 := Aside0.mk (hi); (try clear hb); (try clear hk); (try clear hi)) | ((with_reducible refine gate_callee (f := 67) rfl ?_); refine goesL_ (some 39) rfl rfl Try.func67 (Z24) rfl #[.pointer (some ⟨gb314, 0, none⟩), .int .i64 2] rfl (Z1) ?_; (with_reducible refine (impl_taker_number.calls kj27 gb314 t339 t340 2 t341 t342 t343 w _ ?side1 ?side2 A33.out).mono ?_); (case side1 => repeat (first | (with_reducible first | exact HI314.out | apply IsS98.alloc | apply IsS98.drewN | apply IsS98.drew | apply IsS98.set_0 | apply IsS98.set_1 | refine IsS98.far ?_ NB314_313.out _ | refine IsS98.far ?_ NB314_324.out _) | exact HI314.out)); (case side2 => repeat (first | (with_reducible first | exact HB.out | apply below_alloc | apply pw_below_drewN | apply below_drew1 | refine below_set ?_ (IsS98.ge HI314.out) | refine below_set ?_ GE313.out | refine below_set ?_ GE324.out) | exact HB.out)); rintro e w38 ⟨rfl, hi, hb, hk⟩; refine ⟨_, rfl, ?_⟩; replace HO_325005 := Aside0.mk (Kd.R_mono (Kd.R_keep (IsS98.apart (show IsS98 w _ gb314 t339 t340 from by repeat (first | (with_reducible first | exact HI314.out | apply IsS98.alloc | apply IsS98.drewN | apply IsS98.drew | apply IsS98.set_0 | apply IsS98.set_1 | refine IsS98.far ?_ NB314_313.out _ | refine IsS98.far ?_ NB314_324.out _) | exact HI314.out)) (Z75) (Z79)) hk (fun _ h => h.2)) (fun _ h => h.1)); replace BK313 := Aside0.mk (KeepBut.blk hk (g' := gb313) (o := .cells #[.int .i64 0, .int .i64 0, .int .i64 0, .int .i64 0, .string (⟨#[]⟩ : ByteArray), .slice none 0 0] 65 (0, 0)) (Z38) NB313_314.out (Z124)); replace BK324 := Aside0.mk (KeepBut.blk hk (g' := gb324) (o := .cells #[.int .i64 t315, .int .i64 t331, .int .i64 t318, .int .i64 t321, .string t334, u325005] 65 (0, 0)) (Z65) NB324_314.out (Z124)); replace HB := Aside0.mk (hb); replace HI314 := Aside0.mk (hi); (try clear hb); (try clear hk); (try clear hi)))
       replace HO_325005 := Aside0.mk (Kd.R_drew HO_325005.out)
       replace BK313 := Aside0.mk (blk_drew BK313.out)
       replace BK324 := Aside0.mk (blk_drew BK324.out)
       replace HI314 := Aside0.mk (IsS98.drew HI314.out)
       replace HB := Aside0.mk (below_drew1 HB.out)
       refine start_ (n := 11) (S := fun w' => w'.cell? ⟨gb324, 0, none⟩ = some (.int .i64 t315) ∧ w'.cell? ⟨gb324, 1, none⟩ = some (.int .i64 t331) ∧ w'.cell? ⟨gb324, 2, none⟩ = some (.int .i64 t318) ∧ w'.cell? ⟨gb324, 3, none⟩ = some (.int .i64 t321) ∧ w'.cell? ⟨gb324, 4, none⟩ = some (.string t334) ∧ w'.cell? ⟨gb324, 5, none⟩ = some (u325005)) (ds := [10]) #[false, false, false, false, false, false, false, false, false, false, false] (Z24) rfl rfl (bc6 BK324.out) (fun hHeld => ?_); refine with_tabW impl_readMutation.tab12 impl_readMutation.bits12 (fun HT_ HW_ => ?_)
       generalize w38.drew = w39 at HO_325005 BK313 BK324 HI314 HB hHeld ⊢
       refine pA 0 40 ?_
       refine pA 2 42 ?_
       refine pA 4 44 ?_
       refine tA 1 41 ?_
       refine oA 3 43 (fun K hK => ?_)
       refine goes_ Try.func68 (Z24) rfl #[.pointer (some ⟨gb314, 0, none⟩), .int .i64 t338] (Z102) rfl rfl (Z1) ?_
       with_reducible refine (impl_taker_text.calls gb314 t342 t343 t338 t344 t345 t346 w _ ?side1 ?side2 A34.out).mono ?_
       (case side1 => repeat (first | (with_reducible first | exact HI314.out | apply IsS98.alloc | apply IsS98.drewN | apply IsS98.drew | apply IsS98.set_0 | apply IsS98.set_1 | refine IsS98.far ?_ NB314_313.out _ | refine IsS98.far ?_ NB314_324.out _) | exact HI314.out))
       (case side2 => repeat (first | (with_reducible first | exact HB.out | apply below_alloc | apply pw_below_drewN | apply below_drew1 | refine below_set ?_ (IsS98.ge HI314.out) | refine below_set ?_ GE313.out | refine below_set ?_ GE324.out) | exact HB.out))
       rintro e w40 ⟨rfl, hi, hb, hk⟩
       refine ⟨_, rfl, ?_⟩
       replace HO_325005 := Aside0.mk (Kd.R_mono (Kd.R_keep (IsS98.apart (show IsS98 w _ gb314 t342 t343 from by repeat (first | (with_reducible first | exact HI314.out | apply IsS98.alloc | apply IsS98.drewN | apply IsS98.drew | apply IsS98.set_0 | apply IsS98.set_1 | refine IsS98.far ?_ NB314_313.out _ | refine IsS98.far ?_ NB314_324.out _) | exact HI314.out)) (Z75) (Z79)) hk (fun _ h => h.2)) (fun _ h => h.1))
       replace BK313 := Aside0.mk (KeepBut.blk hk (g' := gb313) (o := .cells #[.int .i64 0, .int .i64 0, .int .i64 0, .int .i64 0, .string (⟨#[]⟩ : ByteArray), .slice none 0 0] 65 (0, 0)) (Z38) NB313_314.out (Z124))
       replace BK324 := Aside0.mk (KeepBut.blk hk (g' := gb324) (o := .cells #[.int .i64 t315, .int .i64 t331, .int .i64 t318, .int .i64 t321, .string t334, u325005] 65 (0, 0)) (Z65) NB324_314.out (Z124))
       replace HB := Aside0.mk (hb)
       replace HI314 := Aside0.mk (hi)
       (try clear hb); (try clear hb2); (try clear hk); (try clear hi)
       refine hK.out _ _ (bc6 BK324.out) (fun hHeld => ?_)
       clear hK K
       refine nB 43 ?_
       refine oA 5 45 (fun K hK => ?_)
       refine goes_ Try.func68 (Z24) rfl #[.pointer (some ⟨gb314, 0, none⟩), .int .i64 t341] (Z102) rfl rfl (Z1) ?_
       with_reducible refine (impl_taker_text.calls gb314 t345 t346 t341 t347 t348 t349 w _ ?side1 ?side2 A35.out).mono ?_
       (case side1 => repeat (first | (with_reducible first | exact HI314.out | apply IsS98.alloc | apply IsS98.drewN | apply IsS98.drew | apply IsS98.set_0 | apply IsS98.set_1 | refine IsS98.far ?_ NB314_313.out _ | refine IsS98.far ?_ NB314_324.out _) | exact HI314.out))
       (case side2 => repeat (first | (with_reducible first | exact HB.out | apply below_alloc | apply pw_below_drewN | apply below_drew1 | refine below_set ?_ (IsS98.ge HI314.out) | refine below_set ?_ GE313.out | refine below_set ?_ GE324.out) | exact HB.out))
       rintro e w41 ⟨rfl, hi, hb, hk⟩
       refine ⟨_, rfl, ?_⟩
       replace HO_325005 := Aside0.mk (Kd.R_mono (Kd.R_keep (IsS98.apart (show IsS98 w _ gb314 t345 t346 from by repeat (first | (with_reducible first | exact HI314.out | apply IsS98.alloc | apply IsS98.drewN | apply IsS98.drew | apply IsS98.set_0 | apply IsS98.set_1 | refine IsS98.far ?_ NB314_313.out _ | refine IsS98.far ?_ NB314_324.out _) | exact HI314.out)) (Z75) (Z79)) hk (fun _ h => h.2)) (fun _ h => h.1))
       replace BK313 := Aside0.mk (KeepBut.blk hk (g' := gb313) (o := .cells #[.int .i64 0, .int .i64 0, .int .i64 0, .int .i64 0, .string (⟨#[]⟩ : ByteArray), .slice none 0 0] 65 (0, 0)) (Z38) NB313_314.out (Z124))
       replace BK324 := Aside0.mk (KeepBut.blk hk (g' := gb324) (o := .cells #[.int .i64 t315, .int .i64 t331, .int .i64 t318, .int .i64 t321, .string t334, u325005] 65 (0, 0)) (Z65) NB324_314.out (Z124))
       replace HB := Aside0.mk (hb)
       replace HI314 := Aside0.mk (hi)
       (try clear hb); (try clear hb2); (try clear hk); (try clear hi)
       refine hK.out _ _ (bc6 BK324.out) (fun hHeld => ?_)
       clear hK K
       refine nB 45 ?_
       refine pA 6 46 ?_
       refine oA 7 47 (fun K hK => ?_)
       refine value_ (w1 := ?_) (v := ?_) (Z102) rfl ?_ ?_
       rotate_left 2
       ·go_simp
        constructor
        ·rfl
        ·rfl
       refine hK.out _ _ (bc6 (blk_alloc BK324.out _)) (fun hHeld => ?_)
       clear hK K
       refine nB 47 ?_
       refine oA 8 48 (fun K hK => ?_)
       refine Kd.R_append_step k86 (w0 := w) w.heap.size (Z102) (.tmp 41) (.tmp 47) 63 86 (.agg #[(.string ⟨#[]⟩), (.string ⟨#[]⟩)]) 32 rfl Try.underlying63 info86 rfl (Z79) (Z43) u325005 x325005_1 (⟨t344, t347⟩ : S86) [.string t344, .string t347] (fun _ => True) (fun _ => False) rfl rfl ?aP (fun _ hk => hk.elim) ?aF ?aO ?aB ?aS ?aL ?_
       (case aP => exact k86_mkM _ _ _ (⟨t344, t347⟩ : S86))
       (case aB => exact (Z36))
       (case aF => exact (fun _ _ => trivial))
       (case aO => exact (Z75))
       (case aS => exact (below_size (Z36)))
       (case aL => have := LMc36.out; omega)
       intro v351 w42 ho hb hg hat
       rw [← Ny350.out] at ho
       have n0_ := Aside0.mk (blk_grown (g := gb313) (o := .cells #[.int .i64 0, .int .i64 0, .int .i64 0, .int .i64 0, .string (⟨#[]⟩ : ByteArray), .slice none 0 0] 65 (0, 0)) (Z38) hg (Kd.R_ne HO_325005.out BK313.out (Z79)))
       have n1_ := Aside0.mk (blk_grown (g := gb324) (o := .cells #[.int .i64 t315, .int .i64 t331, .int .i64 t318, .int .i64 t321, .string t334, u325005] 65 (0, 0)) (Z65) hg (Kd.R_ne HO_325005.out BK324.out (Z79)))
       have n2_ := Aside0.mk (IsS98.grown (Z58) hg (IsS98.own_ne HI314.out HO_325005.out (Z79)))
       have n3_ := Aside0.mk (hb)
       have n4_ := Aside0.mk (ho)
       clear BK313
       clear BK324
       clear HI314
       clear HB
       clear HO_325005
       have BK313 := n0_
       have BK324 := n1_
       have HI314 := n2_
       have HB := n3_
       have HO352 := n4_
       clear n0_ n1_ n2_ n3_ n4_
       clear ho hb hg hat
       obtain ⟨Ao43, co43, eo43⟩ := Kd.R_slice HO352.out
       (first | subst eo43 | (injection eo43 with f1_ f2_ f3_; have f4_ := f1_.symm; have f5_ := f3_.symm; clear f1_ f2_ f3_; subst f4_; subst f5_))
       refine hK.out _ _ (bc6 BK324.out) (fun hHeld => ?_)
       clear hK K
       refine nB 48 ?_
       refine pA 9 49 ?_
       refine last_ (i := 10) (N := none) #[true, true, true, true, true, true, true, true, true, true, true] rfl rfl (one_of HT_.out (Z24)) (Z79) (fun K hK => ?_)
       have hs44 : w42.cell? ⟨gb324, 5, none⟩ = some (u325005) := (blk_cell BK324.out 5).trans rfl
       have hfs44 := blk_frozen BK324.out 5
       have hns44_0 := NB313_324.out
       have hms44_0 := NB324_313.out
       refine skip_ (w1 := ?_) (Z102) rfl ?_ ?_
       rotate_left
       ·go_simp
        rfl
       refine hK.out _ _ ?_
       clear hK K
       refine done_ (done_of HT_.out (Z24)) ?_
       try go_wp2
       go_roundg kj27
       case measure => have := HK1.out; have := HJ27.out; omega
       case rel => exact ⟨(wrap64 (x8_1 + 1)), (y350), (.slice Ao43 y350.length co43), (t348), (t349), (Z3), H', ⟨by have := HK1.out; have := HJ27.out; omega⟩, ⟨by (with_reducible repeat (first | apply Kd.R_alloc | apply Kd.R_drewN | apply Kd.R_drew)); exact Kd.R_mono (Kd.R_far (p := ⟨gb324, 5, none⟩) (Kd.R_types HO352.out BK324.out (Z79)) (fun _ hk => hk.2) (.slice Ao43 y350.length co43)) (fun _ hk => trivial)⟩, ⟨Z83⟩, ⟨by (with_reducible repeat (first | refine blk_drewN ?_ _ | refine blk_drew ?_ | refine blk_alloc ?_ _)); refine blk_put (cs := #[.int .i64 t315, .int .i64 t331, .int .i64 t318, .int .i64 t321, .string t334, u325005]) ?_ 5 _ rfl; (with_reducible repeat (first | refine blk_drewN ?_ _ | refine blk_drew ?_ | refine blk_alloc ?_ _)); exact BK324.out⟩, ⟨Z58⟩, ⟨Z36⟩⟩
      ·replace c31 := Bool.eq_false_iff.mpr c31
       subst c31
       replace H := ifF H
       by_cases c45 : t336 = true
       ·subst c45
        replace H := ifT H
        simp only [Option.some.injEq, Prod.mk.injEq] at H
        obtain ⟨rfl, rfl, rfl, rfl, rfl, rfl, rfl⟩ := H
        try go_wp2
        replace HO_325005 := Aside0.mk (Kd.R_drew HO_325005.out)
        replace BK313 := Aside0.mk (blk_drew BK313.out)
        replace BK324 := Aside0.mk (blk_drew BK324.out)
        replace HI314 := Aside0.mk (IsS98.drew HI314.out)
        replace HB := Aside0.mk (below_drew1 HB.out)
        obtain ⟨Ao52, co52, eo52⟩ := Kd.R_slice HO_325005.out
        (first | subst eo52 | (injection eo52 with f1_ f2_ f3_; have f4_ := f1_.symm; have f5_ := f3_.symm; clear f1_ f2_ f3_; subst f4_; subst f5_))
        refine start_ (n := 15) (S := fun w' => w'.cell? ⟨gb324, 0, none⟩ = some (.int .i64 t315) ∧ w'.cell? ⟨gb324, 1, none⟩ = some (.int .i64 t331) ∧ w'.cell? ⟨gb324, 2, none⟩ = some (.int .i64 t318) ∧ w'.cell? ⟨gb324, 3, none⟩ = some (.int .i64 t321) ∧ w'.cell? ⟨gb324, 4, none⟩ = some (.string t334) ∧ w'.cell? ⟨gb324, 5, none⟩ = some (.slice Ao52 x325005_1.length co52) ∧ w'.cell? ⟨gb314, 0, none⟩ = some (.string t335) ∧ w'.cell? ⟨gb314, 1, none⟩ = some (.bool true)) (ds := []) #[false, false, false, false, false, false, false, false, false, false, false, false, false, false, false] (Z24) rfl rfl (bk6 BK324.out (bc2 (Aside0.mk HI314.out.1).out)) (fun hHeld => ?_); refine with_tabW impl_readMutation.tab13 impl_readMutation.bits13 (fun HT_ HW_ => ?_)
        generalize wc.drew = w46 at HO_325005 BK313 BK324 HI314 HB hHeld ⊢
        refine pA 1 51 ?_
        refine tA 0 50 ?_
        refine tA 2 52 ?_
        refine pA 3 53 ?_
        refine pA 4 54 ?_
        refine pU 5 55 ?_
        refine pU 6 56 ?_
        refine pU 7 57 ?_
        refine pA 8 58 ?_
        refine pA 9 59 ?_
        refine pU 10 60 ?_
        refine pU 11 61 ?_
        refine pA 12 62 ?_
        refine one_ (i := 13) (N := none) #[true, true, true, true, true, true, true, true, true, true, true, true, true, true, false] rfl rfl (one_of HT_.out (Z24)) (Z79) (fun K hK => ?_)
        have hs47 : w46.cell? ⟨gb313, 0, none⟩ = some (.int .i64 0) := (blk_cell BK313.out 0).trans rfl
        have hfs47 := blk_frozen BK313.out 0
        have hns47_1 := NB324_313.out
        have hms47_1 := NB313_324.out
        have hs48 : w46.cell? ⟨gb313, 1, none⟩ = some (.int .i64 0) := (blk_cell BK313.out 1).trans rfl
        have hfs48 := blk_frozen BK313.out 1
        have hns48_1 := NB324_313.out
        have hms48_1 := NB313_324.out
        have hs49 : w46.cell? ⟨gb313, 2, none⟩ = some (.int .i64 0) := (blk_cell BK313.out 2).trans rfl
        have hfs49 := blk_frozen BK313.out 2
        have hns49_1 := NB324_313.out
        have hms49_1 := NB313_324.out
        have hs50 : w46.cell? ⟨gb313, 3, none⟩ = some (.int .i64 0) := (blk_cell BK313.out 3).trans rfl
        have hfs50 := blk_frozen BK313.out 3
        have hns50_1 := NB324_313.out
        have hms50_1 := NB313_324.out
        have hs51 : w46.cell? ⟨gb313, 4, none⟩ = some (.string (⟨#[]⟩ : ByteArray)) := (blk_cell BK313.out 4).trans rfl
        have hfs51 := blk_frozen BK313.out 4
        have hns51_1 := NB324_313.out
        have hms51_1 := NB313_324.out
        have hs53 : w46.cell? ⟨gb313, 5, none⟩ = some (.slice none 0 0) := (blk_cell BK313.out 5).trans rfl
        have hfs53 := blk_frozen BK313.out 5
        have hns53_1 := NB324_313.out
        have hms53_1 := NB313_324.out
        refine skip_ (w1 := ?_) (Z102) rfl ?_ ?_
        rotate_left
        ·go_simp
         rfl
        refine hK.out _ _ ⟨((cell_far (p := ⟨gb313, _, none⟩) NB324_313.out _).trans (((cell_far (p := ⟨gb313, _, none⟩) NB324_313.out _).trans (((cell_far (p := ⟨gb313, _, none⟩) NB324_313.out _).trans (((cell_far (p := ⟨gb313, _, none⟩) NB324_313.out _).trans (((cell_far (p := ⟨gb313, _, none⟩) NB324_313.out _).trans (((cell_far (p := ⟨gb313, _, none⟩) NB324_313.out _).trans (hHeld.1)))))))))))), ⟨((cell_far (p := ⟨gb313, _, none⟩) NB324_313.out _).trans (((cell_far (p := ⟨gb313, _, none⟩) NB324_313.out _).trans (((cell_far (p := ⟨gb313, _, none⟩) NB324_313.out _).trans (((cell_far (p := ⟨gb313, _, none⟩) NB324_313.out _).trans (((cell_far (p := ⟨gb313, _, none⟩) NB324_313.out _).trans (((cell_far (p := ⟨gb313, _, none⟩) NB324_313.out _).trans (hHeld.2.1)))))))))))), ⟨((cell_far (p := ⟨gb313, _, none⟩) NB324_313.out _).trans (((cell_far (p := ⟨gb313, _, none⟩) NB324_313.out _).trans (((cell_far (p := ⟨gb313, _, none⟩) NB324_313.out _).trans (((cell_far (p := ⟨gb313, _, none⟩) NB324_313.out _).trans (((cell_far (p := ⟨gb313, _, none⟩) NB324_313.out _).trans (((cell_far (p := ⟨gb313, _, none⟩) NB324_313.out _).trans (hHeld.2.2.1)))))))))))), ⟨((cell_far (p := ⟨gb313, _, none⟩) NB324_313.out _).trans (((cell_far (p := ⟨gb313, _, none⟩) NB324_313.out _).trans (((cell_far (p := ⟨gb313, _, none⟩) NB324_313.out _).trans (((cell_far (p := ⟨gb313, _, none⟩) NB324_313.out _).trans (((cell_far (p := ⟨gb313, _, none⟩) NB324_313.out _).trans (((cell_far (p := ⟨gb313, _, none⟩) NB324_313.out _).trans (hHeld.2.2.2.1)))))))))))), ⟨((cell_far (p := ⟨gb313, _, none⟩) NB324_313.out _).trans (((cell_far (p := ⟨gb313, _, none⟩) NB324_313.out _).trans (((cell_far (p := ⟨gb313, _, none⟩) NB324_313.out _).trans (((cell_far (p := ⟨gb313, _, none⟩) NB324_313.out _).trans (((cell_far (p := ⟨gb313, _, none⟩) NB324_313.out _).trans (((cell_far (p := ⟨gb313, _, none⟩) NB324_313.out _).trans (hHeld.2.2.2.2.1)))))))))))), ⟨((cell_far (p := ⟨gb313, _, none⟩) NB324_313.out _).trans (((cell_far (p := ⟨gb313, _, none⟩) NB324_313.out _).trans (((cell_far (p := ⟨gb313, _, none⟩) NB324_313.out _).trans (((cell_far (p := ⟨gb313, _, none⟩) NB324_313.out _).trans (((cell_far (p := ⟨gb313, _, none⟩) NB324_313.out _).trans (((cell_far (p := ⟨gb313, _, none⟩) NB324_313.out _).trans (hHeld.2.2.2.2.2.1)))))))))))), ⟨((cell_far (p := ⟨gb313, _, none⟩) NB314_313.out _).trans (((cell_far (p := ⟨gb313, _, none⟩) NB314_313.out _).trans (((cell_far (p := ⟨gb313, _, none⟩) NB314_313.out _).trans (((cell_far (p := ⟨gb313, _, none⟩) NB314_313.out _).trans (((cell_far (p := ⟨gb313, _, none⟩) NB314_313.out _).trans (((cell_far (p := ⟨gb313, _, none⟩) NB314_313.out _).trans (hHeld.2.2.2.2.2.2.1)))))))))))), ((cell_far (p := ⟨gb313, _, none⟩) NB314_313.out _).trans (((cell_far (p := ⟨gb313, _, none⟩) NB314_313.out _).trans (((cell_far (p := ⟨gb313, _, none⟩) NB314_313.out _).trans (((cell_far (p := ⟨gb313, _, none⟩) NB314_313.out _).trans (((cell_far (p := ⟨gb313, _, none⟩) NB314_313.out _).trans (((cell_far (p := ⟨gb313, _, none⟩) NB314_313.out _).trans (hHeld.2.2.2.2.2.2.2))))))))))))⟩⟩⟩⟩⟩⟩⟩ (fun hHeld => ?_)
        clear hK K
        refine pA 14 3 ?_
        refine done_ (done_of HT_.out (Z24)) ?_
        try go_wp2
        refine bodyPost_ret (results_ct rfl _ _ gb313 65 #[.int .i64 t315, .int .i64 t331, .int .i64 t318, .int .i64 t321, .string t334, .slice Ao52 x325005_1.length co52] (0, 0) _ rfl (Z15) Try.underlying65 rfl (Z24)) rfl ?_
        exact ⟨_, Z2, by (with_reducible repeat (first | apply Kd.R_alloc | apply Kd.R_drewN | apply Kd.R_drew)); exact Kd.R_mono (Kd.R_far (p := ⟨gb313, 5, none⟩) (Kd.R_far (p := ⟨gb313, 4, none⟩) (Kd.R_far (p := ⟨gb313, 3, none⟩) (Kd.R_far (p := ⟨gb313, 2, none⟩) (Kd.R_far (p := ⟨gb313, 1, none⟩) (Kd.R_far (p := ⟨gb313, 0, none⟩) (Kd.R_types HO_325005.out BK313.out (Z79)) (fun _ hk => hk.2) (.int .i64 t315)) (fun _ hk => hk.2) (.int .i64 t331)) (fun _ hk => hk.2) (.int .i64 t318)) (fun _ hk => hk.2) (.int .i64 t321)) (fun _ hk => hk.2) (.string t334)) (fun _ hk => hk.2) (.slice Ao52 x325005_1.length co52)) (fun _ hk => trivial), Z36⟩
       ·replace c45 := Bool.eq_false_iff.mpr c45
        subst c45
        replace H := ifF H
        by_cases c54 : t335.toList = ([] : List UInt8)
        ·rw [if_pos c54] at H
         have c54b0 := beq_iff_eq.mpr c54
         have c54b1 := bne_eq_false_iff_eq.mpr c54
         clear c54
         obtain ⟨t337, A55, H⟩ := bindA H
         try dsimp only at H
         simp only [Option.some.injEq, Prod.mk.injEq] at H
         obtain ⟨rfl, rfl, rfl, rfl, rfl, rfl, rfl⟩ := H
         try go_wp2
         replace HO_325005 := Aside0.mk (Kd.R_drew HO_325005.out)
         replace BK313 := Aside0.mk (blk_drew BK313.out)
         replace BK324 := Aside0.mk (blk_drew BK324.out)
         replace HI314 := Aside0.mk (IsS98.drew HI314.out)
         replace HB := Aside0.mk (below_drew1 HB.out)
         obtain ⟨Ao57, co57, eo57⟩ := Kd.R_slice HO_325005.out
         (first | subst eo57 | (injection eo57 with f1_ f2_ f3_; have f4_ := f1_.symm; have f5_ := f3_.symm; clear f1_ f2_ f3_; subst f4_; subst f5_))
         refine start_ (n := 15) (S := fun w' => w'.cell? ⟨gb324, 0, none⟩ = some (.int .i64 t315) ∧ w'.cell? ⟨gb324, 1, none⟩ = some (.int .i64 t331) ∧ w'.cell? ⟨gb324, 2, none⟩ = some (.int .i64 t318) ∧ w'.cell? ⟨gb324, 3, none⟩ = some (.int .i64 t321) ∧ w'.cell? ⟨gb324, 4, none⟩ = some (.string t334) ∧ w'.cell? ⟨gb324, 5, none⟩ = some (.slice Ao57 x325005_1.length co57) ∧ w'.cell? ⟨gb314, 0, none⟩ = some (.string t335) ∧ w'.cell? ⟨gb314, 1, none⟩ = some (.bool false)) (ds := []) #[false, false, false, false, false, false, false, false, false, false, false, false, false, false, false] (Z24) rfl rfl (bk6 BK324.out (bc2 (Aside0.mk HI314.out.1).out)) (fun hHeld => ?_); refine with_tabW impl_readMutation.tab13 impl_readMutation.bits13 (fun HT_ HW_ => ?_)
         generalize wc.drew = w56 at HO_325005 BK313 BK324 HI314 HB hHeld ⊢
         refine pA 1 51 ?_
         refine tA 0 50 ?_
         refine tA 2 52 ?_
         refine pA 3 53 ?_
         refine pA 4 54 ?_
         refine pA 5 55 ?_
         refine tA 6 56 ?_
         refine pA 7 57 ?_
         refine pA 8 58 ?_
         refine pA 9 59 ?_
         refine tA 10 60 ?_
         refine oA 11 61 (fun K hK => ?_)
         refine goes_ Try.func69 (Z24) rfl #[.agg #[.int .i64 t315, .int .i64 t331, .int .i64 t318, .int .i64 t321, .string t334, .slice Ao57 x325005_1.length co57]] (Z102) rfl rfl (Z1) ?_
         with_reducible refine (impl_MutationOK.calls kj27 t315 t331 t318 t321 t334 _ _ x325005_1 t337 _ ?side1 ?side2 A55.out).mono ?_
         (case side1 => have h_ := (Kd.R_reads' HO_325005.out).2.2; exact tC)
         (case side2 => exact (Kd.R_reads' HO_325005.out).2.1)
         rintro e w58 ⟨rfl, hb⟩
         refine ⟨_, rfl, ?_⟩
         replace HO_325005 := Aside0.mk (Kd.R_below (Z75) hb)
         replace BK313 := Aside0.mk (kB BK313 (Z38) hb)
         replace BK324 := Aside0.mk (kB BK324 (Z65) hb)
         replace HB := Aside0.mk (below_step (Z36) hb)
         replace HI314 := Aside0.mk (IsS98.below (Z58) hb)
         (try clear hb); (try clear hb2); (try clear hk); (try clear hi)
         refine hK.out _ _ (bk6 BK324.out (bc2 (Aside0.mk HI314.out.1).out)) (fun hHeld => ?_)
         clear hK K
         refine nB 61 ?_
         refine pA 12 62 ?_
         refine one_ (i := 13) (N := none) #[true, true, true, true, true, true, true, true, true, true, true, true, true, true, false] rfl rfl (one_of HT_.out (Z24)) (Z79) (fun K hK => ?_)
         have hs59 : w58.cell? ⟨gb313, 0, none⟩ = some (.int .i64 0) := (blk_cell BK313.out 0).trans rfl
         have hfs59 := blk_frozen BK313.out 0
         have hns59_1 := NB324_313.out
         have hms59_1 := NB313_324.out
         have hs60 : w58.cell? ⟨gb313, 1, none⟩ = some (.int .i64 0) := (blk_cell BK313.out 1).trans rfl
         have hfs60 := blk_frozen BK313.out 1
         have hns60_1 := NB324_313.out
         have hms60_1 := NB313_324.out
         have hs61 : w58.cell? ⟨gb313, 2, none⟩ = some (.int .i64 0) := (blk_cell BK313.out 2).trans rfl
         have hfs61 := blk_frozen BK313.out 2
         have hns61_1 := NB324_313.out
         have hms61_1 := NB313_324.out
         have hs62 : w58.cell? ⟨gb313, 3, none⟩ = some (.int .i64 0) := (blk_cell BK313.out 3).trans rfl
         have hfs62 := blk_frozen BK313.out 3
         have hns62_1 := NB324_313.out
         have hms62_1 := NB313_324.out
         have hs63 : w58.cell? ⟨gb313, 4, none⟩ = some (.string (⟨#[]⟩ : ByteArray)) := (blk_cell BK313.out 4).trans rfl
         have hfs63 := blk_frozen BK313.out 4
         have hns63_1 := NB324_313.out
         have hms63_1 := NB313_324.out
         have hs64 : w58.cell? ⟨gb313, 5, none⟩ = some (.slice none 0 0) := (blk_cell BK313.out 5).trans rfl
         have hfs64 := blk_frozen BK313.out 5
         have hns64_1 := NB324_313.out
         have hms64_1 := NB313_324.out
         refine skip_ (w1 := ?_) (Z102) rfl ?_ ?_
         rotate_left
         ·go_simp
          rfl
         refine hK.out _ _ ⟨((cell_far (p := ⟨gb313, _, none⟩) NB324_313.out _).trans (((cell_far (p := ⟨gb313, _, none⟩) NB324_313.out _).trans (((cell_far (p := ⟨gb313, _, none⟩) NB324_313.out _).trans (((cell_far (p := ⟨gb313, _, none⟩) NB324_313.out _).trans (((cell_far (p := ⟨gb313, _, none⟩) NB324_313.out _).trans (((cell_far (p := ⟨gb313, _, none⟩) NB324_313.out _).trans (hHeld.1)))))))))))), ⟨((cell_far (p := ⟨gb313, _, none⟩) NB324_313.out _).trans (((cell_far (p := ⟨gb313, _, none⟩) NB324_313.out _).trans (((cell_far (p := ⟨gb313, _, none⟩) NB324_313.out _).trans (((cell_far (p := ⟨gb313, _, none⟩) NB324_313.out _).trans (((cell_far (p := ⟨gb313, _, none⟩) NB324_313.out _).trans (((cell_far (p := ⟨gb313, _, none⟩) NB324_313.out _).trans (hHeld.2.1)))))))))))), ⟨((cell_far (p := ⟨gb313, _, none⟩) NB324_313.out _).trans (((cell_far (p := ⟨gb313, _, none⟩) NB324_313.out _).trans (((cell_far (p := ⟨gb313, _, none⟩) NB324_313.out _).trans (((cell_far (p := ⟨gb313, _, none⟩) NB324_313.out _).trans (((cell_far (p := ⟨gb313, _, none⟩) NB324_313.out _).trans (((cell_far (p := ⟨gb313, _, none⟩) NB324_313.out _).trans (hHeld.2.2.1)))))))))))), ⟨((cell_far (p := ⟨gb313, _, none⟩) NB324_313.out _).trans (((cell_far (p := ⟨gb313, _, none⟩) NB324_313.out _).trans (((cell_far (p := ⟨gb313, _, none⟩) NB324_313.out _).trans (((cell_far (p := ⟨gb313, _, none⟩) NB324_313.out _).trans (((cell_far (p := ⟨gb313, _, none⟩) NB324_313.out _).trans (((cell_far (p := ⟨gb313, _, none⟩) NB324_313.out _).trans (hHeld.2.2.2.1)))))))))))), ⟨((cell_far (p := ⟨gb313, _, none⟩) NB324_313.out _).trans (((cell_far (p := ⟨gb313, _, none⟩) NB324_313.out _).trans (((cell_far (p := ⟨gb313, _, none⟩) NB324_313.out _).trans (((cell_far (p := ⟨gb313, _, none⟩) NB324_313.out _).trans (((cell_far (p := ⟨gb313, _, none⟩) NB324_313.out _).trans (((cell_far (p := ⟨gb313, _, none⟩) NB324_313.out _).trans (hHeld.2.2.2.2.1)))))))))))), ⟨((cell_far (p := ⟨gb313, _, none⟩) NB324_313.out _).trans (((cell_far (p := ⟨gb313, _, none⟩) NB324_313.out _).trans (((cell_far (p := ⟨gb313, _, none⟩) NB324_313.out _).trans (((cell_far (p := ⟨gb313, _, none⟩) NB324_313.out _).trans (((cell_far (p := ⟨gb313, _, none⟩) NB324_313.out _).trans (((cell_far (p := ⟨gb313, _, none⟩) NB324_313.out _).trans (hHeld.2.2.2.2.2.1)))))))))))), ⟨((cell_far (p := ⟨gb313, _, none⟩) NB314_313.out _).trans (((cell_far (p := ⟨gb313, _, none⟩) NB314_313.out _).trans (((cell_far (p := ⟨gb313, _, none⟩) NB314_313.out _).trans (((cell_far (p := ⟨gb313, _, none⟩) NB314_313.out _).trans (((cell_far (p := ⟨gb313, _, none⟩) NB314_313.out _).trans (((cell_far (p := ⟨gb313, _, none⟩) NB314_313.out _).trans (hHeld.2.2.2.2.2.2.1)))))))))))), ((cell_far (p := ⟨gb313, _, none⟩) NB314_313.out _).trans (((cell_far (p := ⟨gb313, _, none⟩) NB314_313.out _).trans (((cell_far (p := ⟨gb313, _, none⟩) NB314_313.out _).trans (((cell_far (p := ⟨gb313, _, none⟩) NB314_313.out _).trans (((cell_far (p := ⟨gb313, _, none⟩) NB314_313.out _).trans (((cell_far (p := ⟨gb313, _, none⟩) NB314_313.out _).trans (hHeld.2.2.2.2.2.2.2))))))))))))⟩⟩⟩⟩⟩⟩⟩ (fun hHeld => ?_)
         clear hK K
         refine pA 14 3 ?_
         refine done_ (done_of HT_.out (Z24)) ?_
         try go_wp2
         refine bodyPost_ret (results_ct rfl _ _ gb313 65 #[.int .i64 t315, .int .i64 t331, .int .i64 t318, .int .i64 t321, .string t334, .slice Ao57 x325005_1.length co57] (0, 0) _ rfl (Z15) Try.underlying65 rfl (Z24)) rfl ?_
         exact ⟨_, Z2, by (with_reducible repeat (first | apply Kd.R_alloc | apply Kd.R_drewN | apply Kd.R_drew)); exact Kd.R_mono (Kd.R_far (p := ⟨gb313, 5, none⟩) (Kd.R_far (p := ⟨gb313, 4, none⟩) (Kd.R_far (p := ⟨gb313, 3, none⟩) (Kd.R_far (p := ⟨gb313, 2, none⟩) (Kd.R_far (p := ⟨gb313, 1, none⟩) (Kd.R_far (p := ⟨gb313, 0, none⟩) (Kd.R_types HO_325005.out BK313.out (Z79)) (fun _ hk => hk.2) (.int .i64 t315)) (fun _ hk => hk.2) (.int .i64 t331)) (fun _ hk => hk.2) (.int .i64 t318)) (fun _ hk => hk.2) (.int .i64 t321)) (fun _ hk => hk.2) (.string t334)) (fun _ hk => hk.2) (.slice Ao57 x325005_1.length co57)) (fun _ hk => trivial), Z36⟩
        ·rw [if_neg c54] at H
         have c54b0 := beq_eq_false_iff_ne.mpr c54
         have c54b1 := bne_iff_ne.mpr c54
         simp only [Option.some.injEq, Prod.mk.injEq] at H
         obtain ⟨rfl, rfl, rfl, rfl, rfl, rfl, rfl⟩ := H
         try go_wp2
         replace HO_325005 := Aside0.mk (Kd.R_drew HO_325005.out)
         replace BK313 := Aside0.mk (blk_drew BK313.out)
         replace BK324 := Aside0.mk (blk_drew BK324.out)
         replace HI314 := Aside0.mk (IsS98.drew HI314.out)
         replace HB := Aside0.mk (below_drew1 HB.out)
         obtain ⟨Ao71, co71, eo71⟩ := Kd.R_slice HO_325005.out
         (first | subst eo71 | (injection eo71 with f1_ f2_ f3_; have f4_ := f1_.symm; have f5_ := f3_.symm; clear f1_ f2_ f3_; subst f4_; subst f5_))
         refine start_ (n := 15) (S := fun w' => w'.cell? ⟨gb324, 0, none⟩ = some (.int .i64 t315) ∧ w'.cell? ⟨gb324, 1, none⟩ = some (.int .i64 t331) ∧ w'.cell? ⟨gb324, 2, none⟩ = some (.int .i64 t318) ∧ w'.cell? ⟨gb324, 3, none⟩ = some (.int .i64 t321) ∧ w'.cell? ⟨gb324, 4, none⟩ = some (.string t334) ∧ w'.cell? ⟨gb324, 5, none⟩ = some (.slice Ao71 x325005_1.length co71) ∧ w'.cell? ⟨gb314, 0, none⟩ = some (.string t335) ∧ w'.cell? ⟨gb314, 1, none⟩ = some (.bool false)) (ds := []) #[false, false, false, false, false, false, false, false, false, false, false, false, false, false, false] (Z24) rfl rfl (bk6 BK324.out (bc2 (Aside0.mk HI314.out.1).out)) (fun hHeld => ?_); refine with_tabW impl_readMutation.tab13 impl_readMutation.bits13 (fun HT_ HW_ => ?_)
         generalize wc.drew = w65 at HO_325005 BK313 BK324 HI314 HB hHeld ⊢
         refine pA 1 51 ?_
         refine tA 0 50 ?_
         refine tA 2 52 ?_
         refine pA 3 53 ?_
         refine pA 4 54 ?_
         refine pA 5 55 ?_
         refine tA 6 56 ?_
         refine pA 7 57 ?_
         refine pA 8 58 ?_
         refine pA 9 59 ?_
         refine pU 10 60 ?_
         refine pU 11 61 ?_
         refine pA 12 62 ?_
         refine one_ (i := 13) (N := none) #[true, true, true, true, true, true, true, true, true, true, true, true, true, true, false] rfl rfl (one_of HT_.out (Z24)) (Z79) (fun K hK => ?_)
         have hs66 : w65.cell? ⟨gb313, 0, none⟩ = some (.int .i64 0) := (blk_cell BK313.out 0).trans rfl
         have hfs66 := blk_frozen BK313.out 0
         have hns66_1 := NB324_313.out
         have hms66_1 := NB313_324.out
         have hs67 : w65.cell? ⟨gb313, 1, none⟩ = some (.int .i64 0) := (blk_cell BK313.out 1).trans rfl
         have hfs67 := blk_frozen BK313.out 1
         have hns67_1 := NB324_313.out
         have hms67_1 := NB313_324.out
         have hs68 : w65.cell? ⟨gb313, 2, none⟩ = some (.int .i64 0) := (blk_cell BK313.out 2).trans rfl
         have hfs68 := blk_frozen BK313.out 2
         have hns68_1 := NB324_313.out
         have hms68_1 := NB313_324.out
         have hs69 : w65.cell? ⟨gb313, 3, none⟩ = some (.int .i64 0) := (blk_cell BK313.out 3).trans rfl
         have hfs69 := blk_frozen BK313.out 3
         have hns69_1 := NB324_313.out
         have hms69_1 := NB313_324.out
         have hs70 : w65.cell? ⟨gb313, 4, none⟩ = some (.string (⟨#[]⟩ : ByteArray)) := (blk_cell BK313.out 4).trans rfl
         have hfs70 := blk_frozen BK313.out 4
         have hns70_1 := NB324_313.out
         have hms70_1 := NB313_324.out
         have hs72 : w65.cell? ⟨gb313, 5, none⟩ = some (.slice none 0 0) := (blk_cell BK313.out 5).trans rfl
         have hfs72 := blk_frozen BK313.out 5
         have hns72_1 := NB324_313.out
         have hms72_1 := NB313_324.out
         refine skip_ (w1 := ?_) (Z102) rfl ?_ ?_
         rotate_left
         ·go_simp
          rfl
         refine hK.out _ _ ⟨((cell_far (p := ⟨gb313, _, none⟩) NB324_313.out _).trans (((cell_far (p := ⟨gb313, _, none⟩) NB324_313.out _).trans (((cell_far (p := ⟨gb313, _, none⟩) NB324_313.out _).trans (((cell_far (p := ⟨gb313, _, none⟩) NB324_313.out _).trans (((cell_far (p := ⟨gb313, _, none⟩) NB324_313.out _).trans (((cell_far (p := ⟨gb313, _, none⟩) NB324_313.out _).trans (hHeld.1)))))))))))), ⟨((cell_far (p := ⟨gb313, _, none⟩) NB324_313.out _).trans (((cell_far (p := ⟨gb313, _, none⟩) NB324_313.out _).trans (((cell_far (p := ⟨gb313, _, none⟩) NB324_313.out _).trans (((cell_far (p := ⟨gb313, _, none⟩) NB324_313.out _).trans (((cell_far (p := ⟨gb313, _, none⟩) NB324_313.out _).trans (((cell_far (p := ⟨gb313, _, none⟩) NB324_313.out _).trans (hHeld.2.1)))))))))))), ⟨((cell_far (p := ⟨gb313, _, none⟩) NB324_313.out _).trans (((cell_far (p := ⟨gb313, _, none⟩) NB324_313.out _).trans (((cell_far (p := ⟨gb313, _, none⟩) NB324_313.out _).trans (((cell_far (p := ⟨gb313, _, none⟩) NB324_313.out _).trans (((cell_far (p := ⟨gb313, _, none⟩) NB324_313.out _).trans (((cell_far (p := ⟨gb313, _, none⟩) NB324_313.out _).trans (hHeld.2.2.1)))))))))))), ⟨((cell_far (p := ⟨gb313, _, none⟩) NB324_313.out _).trans (((cell_far (p := ⟨gb313, _, none⟩) NB324_313.out _).trans (((cell_far (p := ⟨gb313, _, none⟩) NB324_313.out _).trans (((cell_far (p := ⟨gb313, _, none⟩) NB324_313.out _).trans (((cell_far (p := ⟨gb313, _, none⟩) NB324_313.out _).trans (((cell_far (p := ⟨gb313, _, none⟩) NB324_313.out _).trans (hHeld.2.2.2.1)))))))))))), ⟨((cell_far (p := ⟨gb313, _, none⟩) NB324_313.out _).trans (((cell_far (p := ⟨gb313, _, none⟩) NB324_313.out _).trans (((cell_far (p := ⟨gb313, _, none⟩) NB324_313.out _).trans (((cell_far (p := ⟨gb313, _, none⟩) NB324_313.out _).trans (((cell_far (p := ⟨gb313, _, none⟩) NB324_313.out _).trans (((cell_far (p := ⟨gb313, _, none⟩) NB324_313.out _).trans (hHeld.2.2.2.2.1)))))))))))), ⟨((cell_far (p := ⟨gb313, _, none⟩) NB324_313.out _).trans (((cell_far (p := ⟨gb313, _, none⟩) NB324_313.out _).trans (((cell_far (p := ⟨gb313, _, none⟩) NB324_313.out _).trans (((cell_far (p := ⟨gb313, _, none⟩) NB324_313.out _).trans (((cell_far (p := ⟨gb313, _, none⟩) NB324_313.out _).trans (((cell_far (p := ⟨gb313, _, none⟩) NB324_313.out _).trans (hHeld.2.2.2.2.2.1)))))))))))), ⟨((cell_far (p := ⟨gb313, _, none⟩) NB314_313.out _).trans (((cell_far (p := ⟨gb313, _, none⟩) NB314_313.out _).trans (((cell_far (p := ⟨gb313, _, none⟩) NB314_313.out _).trans (((cell_far (p := ⟨gb313, _, none⟩) NB314_313.out _).trans (((cell_far (p := ⟨gb313, _, none⟩) NB314_313.out _).trans (((cell_far (p := ⟨gb313, _, none⟩) NB314_313.out _).trans (hHeld.2.2.2.2.2.2.1)))))))))))), ((cell_far (p := ⟨gb313, _, none⟩) NB314_313.out _).trans (((cell_far (p := ⟨gb313, _, none⟩) NB314_313.out _).trans (((cell_far (p := ⟨gb313, _, none⟩) NB314_313.out _).trans (((cell_far (p := ⟨gb313, _, none⟩) NB314_313.out _).trans (((cell_far (p := ⟨gb313, _, none⟩) NB314_313.out _).trans (((cell_far (p := ⟨gb313, _, none⟩) NB314_313.out _).trans (hHeld.2.2.2.2.2.2.2))))))))))))⟩⟩⟩⟩⟩⟩⟩ (fun hHeld => ?_)
         clear hK K
         refine pA 14 3 ?_
         refine done_ (done_of HT_.out (Z24)) ?_
         try go_wp2
         refine bodyPost_ret (results_ct rfl _ _ gb313 65 #[.int .i64 t315, .int .i64 t331, .int .i64 t318, .int .i64 t321, .string t334, .slice Ao71 x325005_1.length co71] (0, 0) _ rfl (Z15) Try.underlying65 rfl (Z24)) rfl ?_
         exact ⟨_, Z2, by (with_reducible repeat (first | apply Kd.R_alloc | apply Kd.R_drewN | apply Kd.R_drew)); exact Kd.R_mono (Kd.R_far (p := ⟨gb313, 5, none⟩) (Kd.R_far (p := ⟨gb313, 4, none⟩) (Kd.R_far (p := ⟨gb313, 3, none⟩) (Kd.R_far (p := ⟨gb313, 2, none⟩) (Kd.R_far (p := ⟨gb313, 1, none⟩) (Kd.R_far (p := ⟨gb313, 0, none⟩) (Kd.R_types HO_325005.out BK313.out (Z79)) (fun _ hk => hk.2) (.int .i64 t315)) (fun _ hk => hk.2) (.int .i64 t331)) (fun _ hk => hk.2) (.int .i64 t318)) (fun _ hk => hk.2) (.int .i64 t321)) (fun _ hk => hk.2) (.string t334)) (fun _ hk => hk.2) (.slice Ao71 x325005_1.length co71)) (fun _ hk => trivial), Z36⟩

end Go.Proofs.Ytbikfhccfenkdaa.PFnExactEngineOK
