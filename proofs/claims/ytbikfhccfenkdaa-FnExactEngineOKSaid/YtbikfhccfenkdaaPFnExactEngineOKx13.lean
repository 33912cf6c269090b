/- Contracts of functions that a statement reaches (wip/x/xprint.py, short.py, compact.py). -/
import Derived.Test.YtbikfhccfenkdaaPFnExactEngineOKx0
import Derived.Test.YtbikfhccfenkdaaPFnExactEngineOKx3
import Derived.Test.YtbikfhccfenkdaaPFnExactEngineOKx5
import Derived.Test.YtbikfhccfenkdaaPFnExactEngineOKx10
import Derived.Test.YtbikfhccfenkdaaPFnExactEngineOKx11
import Derived.Test.YtbikfhccfenkdaaPFnExactEngineOKx12
namespace Go.Proofs.Ytbikfhccfenkdaa.PFnExactEngineOK
open Go.RowKit Go.Proofs.YtbikfhccfenkdaaW.PrintWords Go.Proofs.YtbikfhccfenkdaaW.PrintLast Go.Proofs.YtbikfhccfenkdaaW.PrintMore Go.Proofs.Ytbikfhccfenkdaa.Mac
attribute [local go_sem] max2_int min2_int max_two min_two max_three min_three max_four min_four
set_option linter.unusedVariables false
set_option linter.unusedSimpArgs false

/-! ### spec_l09Box: function 78 -/
def spec_l09Box.f (a0_0 : ByteArray) (a0_1 : Int) (a0_2 : Int) (l0_3 : List (S71)) (l0_4 : List ByteArray) : Option (ByteArray × Int × Int × (List (S71)) × List ByteArray) := (some (([] : List (S71)) : List (S71))).bind fun y187 => (if y187.length + l0_3.length < 4398046511104 then ((some (([] : List ByteArray) : List ByteArray)).bind fun y193 => (if y193.length + l0_4.length < 8796093022208 then (some (a0_0, a0_1, a0_2, (y187 ++ l0_3), (y193 ++ l0_4))) else (none))) else (none))
set_option maxHeartbeats 40000000 in
set_option maxRecDepth 100000 in
theorem spec_l09Box.calls (a0_0 : ByteArray) (a0_1 : Int) (a0_2 : Int) (A0_3 : Option Addr) (c0_3 : Nat) (l0_3 : List (S71)) (A0_4 : Option Addr) (c0_4 : Nat) (l0_4 : List ByteArray) (r1 : ByteArray) (r2 : Int) (r3 : Int) (r4 : List (S71)) (r5 : List ByteArray) (w : World) (hr0_3 : Kd.C k71 w A0_3 l0_3.length l0_3) (hc0_3 : l0_3.length ≤ c0_3) (hr0_4 : Kd.C Kd.string w A0_4 l0_4.length l0_4) (hc0_4 : l0_4.length ≤ c0_4) (h : spec_l09Box.f a0_0 a0_1 a0_2 l0_3 l0_4 = some (r1, r2, r3, r4, r5)) :
  Calls Try.prog 78 #[.agg #[.string a0_0, .int .i64 a0_1, .int .i64 a0_2, .slice A0_3 l0_3.length c0_3, .slice A0_4 l0_4.length c0_4]] w fun e w' => ∃ v3_ v4_ : Value, e = .returned (.agg #[.string r1, .int .i64 r2, .int .i64 r3, v3_, v4_]) ∧ Kd.R k71 71 w' w.heap.size (fun _ => True) v3_ r4 ∧ Kd.R Kd.string 9 w' w.heap.size (fun _ => True) v4_ r5 ∧ Below w.heap.size w w' := by
 have hu59 := Try.underlying59
 have HR0_3 := Aside0.mk hr0_3
 have HC0_3 := Aside0.mk hc0_3
 clear hr0_3 hc0_3
 have HR0_4 := Aside0.mk hr0_4
 have HC0_4 := Aside0.mk hc0_4
 clear hr0_4 hc0_4
 have HB := Aside0.mk (Below.refl w.heap.size w)
 have H : ((some (([] : List (S71)) : List (S71))).bind fun y187 => (if y187.length + l0_3.length < 4398046511104 then ((some (([] : List ByteArray) : List ByteArray)).bind fun y193 => (if y193.length + l0_4.length < 8796093022208 then (some (a0_0, a0_1, a0_2, (y187 ++ l0_3), (y193 ++ l0_4))) else (none))) else (none))) = some (r1, r2, r3, r4, r5) := h
 clear h
 obtain ⟨y187, hy187⟩ : ∃ y_ : List (S71), y_ = (([] : List (S71))) := ⟨_, rfl⟩
 replace H : (if y187.length + l0_3.length < 4398046511104 then ((some (([] : List ByteArray) : List ByteArray)).bind fun y193 => (if y193.length + l0_4.length < 8796093022208 then (some (a0_0, a0_1, a0_2, (y187 ++ l0_3), (y193 ++ l0_4))) else (none))) else (none)) = some (r1, r2, r3, r4, r5) := by first | (rw [hy187]; with_reducible exact H) | (have H2_ := (Option.bind_some _ _).symm.trans H; rw [hy187]; with_reducible exact H2_) | (have H2_ := (Option.bind_some _ _).symm.trans H; with_reducible exact H2_) | with_reducible exact H | (rw [hy187]; exact H) | exact H
 have Ny187 := Aside0.mk hy187
 clear hy187
 obtain ⟨c2, H⟩ := ifS H
 have LMc2 := Aside0.mk c2
 clear c2
 obtain ⟨y190, hy190⟩ : ∃ y_ : List (S71), y_ = (y187 ++ l0_3) := ⟨_, rfl⟩
 replace H : ((some (([] : List ByteArray) : List ByteArray)).bind fun y193 => (if y193.length + l0_4.length < 8796093022208 then (some (a0_0, a0_1, a0_2, y190, (y193 ++ l0_4))) else (none))) = some (r1, r2, r3, r4, r5) := by first | (rw [hy190]; with_reducible exact H) | (have H2_ := (Option.bind_some _ _).symm.trans H; rw [hy190]; with_reducible exact H2_) | (have H2_ := (Option.bind_some _ _).symm.trans H; with_reducible exact H2_) | with_reducible exact H | (rw [hy190]; exact H) | exact H
 have Ny190 := Aside0.mk hy190
 clear hy190
 obtain ⟨y193, hy193⟩ : ∃ y_ : List ByteArray, y_ = (([] : List ByteArray)) := ⟨_, rfl⟩
 replace H : (if y193.length + l0_4.length < 8796093022208 then (some (a0_0, a0_1, a0_2, y190, (y193 ++ l0_4))) else (none)) = some (r1, r2, r3, r4, r5) := by first | (rw [hy193]; with_reducible exact H) | (have H2_ := (Option.bind_some _ _).symm.trans H; rw [hy193]; with_reducible exact H2_) | (have H2_ := (Option.bind_some _ _).symm.trans H; with_reducible exact H2_) | with_reducible exact H | (rw [hy193]; exact H) | exact H
 have Ny193 := Aside0.mk hy193
 clear hy193
 obtain ⟨c3, H⟩ := ifS H
 have LMc3 := Aside0.mk c3
 clear c3
 obtain ⟨y196, hy196⟩ : ∃ y_ : List ByteArray, y_ = (y193 ++ l0_4) := ⟨_, rfl⟩
 replace H : (some (a0_0, a0_1, a0_2, y190, y196)) = some (r1, r2, r3, r4, r5) := by first | (rw [hy196]; with_reducible exact H) | (have H2_ := (Option.bind_some _ _).symm.trans H; rw [hy196]; with_reducible exact H2_) | (have H2_ := (Option.bind_some _ _).symm.trans H; with_reducible exact H2_) | with_reducible exact H | (rw [hy196]; exact H) | exact H
 have Ny196 := Aside0.mk hy196
 clear hy196
 simp only [Option.some.injEq, Prod.mk.injEq] at H
 obtain ⟨rfl, rfl, rfl, rfl, rfl⟩ := H
 go_enter Try.func78, Try.ntmps78
 go_wp2_with (first | ((with_reducible refine gate_dst (N := 1) rfl ?_); refine bxE 1 #[.string a0_0, .int .i64 a0_1, .int .i64 a0_2, .slice A0_3 l0_3.length c0_3, .slice A0_4 l0_4.length c0_4] 59 ?_; intro gb185 hg w4 hbox hb; have BK185 := Aside0.mk (hbox); have GW185 := Aside0.mk ((szE w hg (Z0))); have GE185 := Aside0.mk ((szE w hg (Z0))); replace HB := Aside0.mk (below_step (Z0) hb); clear hb hbox hg) | ((with_reducible refine gate_dst (N := 2) rfl ?_); refine bxE 2 #[.string (⟨#[]⟩ : ByteArray), .int .i64 0, .int .i64 0, .slice none 0 0, .slice none 0 0] 59 ?_; intro gb186 hg w5 hbox hb; have BK186 := Aside0.mk (hbox); have GW186 := Aside0.mk ((szE w hg (Z114))); have GE186 := Aside0.mk ((szE w hg (Z114))); replace HB := Aside0.mk (below_step (Z114) hb); have NB185_186 := Aside0.mk ((nL BK185 hg (Z86))); have NB186_185 := Aside0.mk ((nG BK185 hg (Z86))); replace BK185 := Aside0.mk (kB BK185 (Z86) hb); clear hb hbox hg) | ((with_reducible refine gate_dst (N := 3) rfl ?_); refine Kd.R_lit k71 _ 71 ?hg (N := 3) ?hd (xs := ([] : List (S71))) (inner := []) (ok := fun _ => True) (okp := fun _ => True) ?hr ?hp (fun _ hk => hk) trivial (Below.refl _ _) (Nat.le_refl _) (Z124) ?_; (case hd => rfl); (case hg => rfl); (case hr => first | (go_simp; done) | (go_simp; rfl)); (case hp => exact (Reps.none _ _)); intro v188 w6 ho7 hb hg_ hnew_; clear hg_ hnew_; (first | rw [← Ny187.out] at ho7 | (simp only [Int.reduceToNat] at ho7; rw [← Ny187.out] at ho7)); have HO189 := Aside0.mk (Kd.R_lower ho7 (below_size (Z51))); replace BK185 := Aside0.mk (kB BK185 (Z86) hb); replace BK186 := Aside0.mk (kB BK186 (Z130) hb); replace HB := Aside0.mk (below_step (Z51) hb); clear hb ho7; have hnb8 := NB185_186.out; have hnc8 := NB186_185.out; obtain ⟨hcz9_0, hcz9_1, hcz9_2, hcz9_3, hcz9_4⟩ := bc5 BK185.out; obtain ⟨hfz9_0, hfz9_1, hfz9_2, hfz9_3, hfz9_4⟩ := bf5 BK185.out) | ((with_reducible refine gate_builtin (b := .append) (xs := #[.tmp 3, .tmp 5]) rfl ?_); at_builtin; refine Kd.R_append_rows k71 (w0 := w) w.heap.size rfl (.tmp 3) (.tmp 5) 57 71 (.agg #[(.int .i64 0), (.int .i64 0), (.string ⟨#[]⟩)]) 32 rfl Try.underlying57 info71 rfl (Z79) (Z43) v188 y187 l0_3 _ _ _ (fun _ => True) (fun _ => False) rfl rfl ?aO ?aR (fun _ _ h => h) (fun _ h => h.elim) ?aF ?aB ?aS ?aL ?_; (case aR => repeat (first | exact (Kd.C_below HR0_3.out HB.out) | (with_reducible refine Kd.C_alloc ?_ _) | (with_reducible refine Kd.C_drewN ?_ _) | (with_reducible refine Kd.C_drew ?_))); (case aB => exact (Z51)); (case aF => exact (fun _ _ => trivial)); (case aO => exact (by (with_reducible repeat (first | apply Kd.R_alloc | apply Kd.R_drewN | apply Kd.R_drew)); exact HO189.out)); (case aS => exact (below_size (Z51))); (case aL => have := LMc2.out; omega); intro v191 w10 ho hb hg hat; rw [← Ny190.out] at ho; have n0_ := Aside0.mk (blk_grown (g := gb185) (o := .cells #[.string a0_0, .int .i64 a0_1, .int .i64 a0_2, .slice A0_3 l0_3.length c0_3, .slice A0_4 l0_4.length c0_4] 59 (0, 0)) (Z86) hg (Kd.R_ne HO189.out BK185.out (Z79))); have n1_ := Aside0.mk (blk_grown (g := gb186) (o := .cells #[.string (⟨#[]⟩ : ByteArray), .int .i64 0, .int .i64 0, .slice none 0 0, .slice none 0 0] 59 (0, 0)) (Z130) hg (Kd.R_ne HO189.out BK186.out (Z79))); have n2_ := Aside0.mk (hb); have n3_ := Aside0.mk (ho); clear BK185; clear BK186; clear HB; clear HO189; have BK185 := n0_; have BK186 := n1_; have HB := n2_; have HO192 := n3_; clear n0_ n1_ n2_ n3_; clear ho hb hg hat; obtain ⟨Ao11, co11, eo11⟩ := Kd.R_slice HO192.out; subst eo11; obtain ⟨hcz12_0, hcz12_1, hcz12_2, hcz12_3, hcz12_4⟩ := bc5 BK185.out; obtain ⟨hfz12_0, hfz12_1, hfz12_2, hfz12_3, hfz12_4⟩ := bf5 BK185.out) | ((with_reducible refine gate_dst (N := 8) rfl ?_); refine Kd.R_lit Kd.string _ 9 ?hg (N := 8) ?hd (xs := ([] : List ByteArray)) (inner := []) (ok := fun _ => True) (okp := fun _ => True) ?hr ?hp (fun _ hk => hk) trivial (Below.refl _ _) (Nat.le_refl _) (Z124) ?_; (case hd => rfl); (case hg => rfl); (case hr => first | (go_simp; done) | (go_simp; rfl)); (case hp => exact (Reps.none _ _)); intro v194 w13 ho14 hb hg_ hnew_; clear hg_ hnew_; (first | rw [← Ny193.out] at ho14 | (simp only [Int.reduceToNat] at ho14; rw [← Ny193.out] at ho14)); replace HO192 := Aside0.mk (Kd.R_below (by (with_reducible repeat (first | apply Kd.R_alloc | apply Kd.R_drewN | apply Kd.R_drew)); exact (Kd.R_mono (Kd.R_far (p := ⟨gb185, 3, none⟩) (Kd.R_types HO192.out BK185.out (Z79)) (fun _ hk => hk.2) (.slice Ao11 y190.length co11)) (fun _ h_ => h_.1))) hb); have HO195 := Aside0.mk (Kd.R_lower ho14 (below_size (Z51))); replace BK185 := Aside0.mk (blk_below (g := gb185) (o := .cells #[.string a0_0, .int .i64 a0_1, .int .i64 a0_2, .slice Ao11 y190.length co11, .slice A0_4 l0_4.length c0_4] 59 (0, 0)) (by (with_reducible repeat (first | refine blk_drewN ?_ _ | refine blk_drew ?_ | refine blk_alloc ?_ _)); refine blk_put (cs := #[.string a0_0, .int .i64 a0_1, .int .i64 a0_2, .slice A0_3 l0_3.length c0_3, .slice A0_4 l0_4.length c0_4]) ?_ 3 _ rfl; (with_reducible repeat (first | refine blk_drewN ?_ _ | refine blk_drew ?_ | refine blk_alloc ?_ _)); exact BK185.out) hb); replace BK186 := Aside0.mk (kB BK186 (by (with_reducible repeat (first | refine blk_drewN ?_ _ | refine blk_drew ?_ | refine blk_alloc ?_ _)); refine blk_far ?_ NB186_185.out _; (with_reducible repeat (first | refine blk_drewN ?_ _ | refine blk_drew ?_ | refine blk_alloc ?_ _)); exact BK186.out) hb); replace HB := Aside0.mk (below_step (Z51) hb); clear hb ho14; obtain ⟨hcz15_0, hcz15_1, hcz15_2, hcz15_3, hcz15_4⟩ := bc5 BK185.out; obtain ⟨hfz15_0, hfz15_1, hfz15_2, hfz15_3, hfz15_4⟩ := bf5 BK185.out) | ((with_reducible refine gate_builtin (b := .append) (xs := #[.tmp 8, .tmp 10]) rfl ?_); at_builtin; refine Kd.R_append_rows Kd.string (w0 := w) w.heap.size rfl (.tmp 8) (.tmp 10) 40 9 (.string ⟨#[]⟩) 16 rfl Try.underlying40 info9 rfl (Z79) (Z43) v194 y193 l0_4 _ _ _ (fun _ => True) (fun _ => False) rfl rfl ?aO ?aR (fun _ _ h => h) (fun _ h => h.elim) ?aF ?aB ?aS ?aL ?_; (case aR => repeat (first | exact (Kd.C_below HR0_4.out HB.out) | (with_reducible refine Kd.C_alloc ?_ _) | (with_reducible refine Kd.C_drewN ?_ _) | (with_reducible refine Kd.C_drew ?_))); (case aB => exact (Z51)); (case aF => exact (fun _ _ => trivial)); (case aO => exact (by (with_reducible repeat (first | apply Kd.R_alloc | apply Kd.R_drewN | apply Kd.R_drew)); exact HO195.out)); (case aS => exact (below_size (Z51))); (case aL => have := LMc3.out; omega); intro v197 w16 ho hb hg hat; rw [← Ny196.out] at ho; have n0_ := Aside0.mk (blk_grown (g := gb185) (o := .cells #[.string a0_0, .int .i64 a0_1, .int .i64 a0_2, .slice Ao11 y190.length co11, .slice A0_4 l0_4.length c0_4] 59 (0, 0)) (Z86) hg (Kd.R_ne HO195.out BK185.out (Z79))); have n1_ := Aside0.mk (blk_grown (g := gb186) (o := .cells #[.string (⟨#[]⟩ : ByteArray), .int .i64 0, .int .i64 0, .slice none 0 0, .slice none 0 0] 59 (0, 0)) (Z130) hg (Kd.R_ne HO195.out BK186.out (Z79))); have n2_ := Aside0.mk (Kd.R_over' (by (with_reducible repeat (first | apply Kd.R_alloc | apply Kd.R_drewN | apply Kd.R_drew)); exact HO192.out) (Kd.R_typed (by (with_reducible repeat (first | apply Kd.R_alloc | apply Kd.R_drewN | apply Kd.R_drew)); exact HO195.out)) (Z79) hg); have n3_ := Aside0.mk (hb); have n4_ := Aside0.mk (ho); clear BK185; clear BK186; clear HO192; clear HB; clear HO195; have BK185 := n0_; have BK186 := n1_; have HO192 := n2_; have HB := n3_; have HO198 := n4_; clear n0_ n1_ n2_ n3_ n4_; clear ho hb hg hat; obtain ⟨Ao17, co17, eo17⟩ := Kd.R_slice HO198.out; subst eo17; obtain ⟨hcz18_0, hcz18_1, hcz18_2, hcz18_3, hcz18_4⟩ := bc5 BK185.out; obtain ⟨hfz18_0, hfz18_1, hfz18_2, hfz18_3, hfz18_4⟩ := bf5 BK185.out; obtain ⟨hcz19_0, hcz19_1, hcz19_2, hcz19_3, hcz19_4⟩ := bc5 BK186.out; obtain ⟨hfz19_0, hfz19_1, hfz19_2, hfz19_3, hfz19_4⟩ := bf5 BK186.out))
 refine bodyPost_ret (results_cell_row rfl _ _ gb186 59 #[.string a0_0, .int .i64 a0_1, .int .i64 a0_2, .slice Ao11 y190.length co11, .slice Ao17 y196.length co17] (0, 0) _ rfl (by (with_reducible repeat (first | refine blk_drewN ?_ _ | refine blk_drew ?_ | refine blk_alloc ?_ _)); refine blk_put (cs := #[.string a0_0, .int .i64 a0_1, .int .i64 a0_2, .slice Ao11 y190.length co11, .slice none 0 0]) ?_ 4 _ rfl; (with_reducible repeat (first | refine blk_drewN ?_ _ | refine blk_drew ?_ | refine blk_alloc ?_ _)); refine blk_put (cs := #[.string a0_0, .int .i64 a0_1, .int .i64 a0_2, .slice none 0 0, .slice none 0 0]) ?_ 3 _ rfl; (with_reducible repeat (first | refine blk_drewN ?_ _ | refine blk_drew ?_ | refine blk_alloc ?_ _)); refine blk_put (cs := #[.string a0_0, .int .i64 a0_1, .int .i64 0, .slice none 0 0, .slice none 0 0]) ?_ 2 _ rfl; (with_reducible repeat (first | refine blk_drewN ?_ _ | refine blk_drew ?_ | refine blk_alloc ?_ _)); refine blk_put (cs := #[.string a0_0, .int .i64 0, .int .i64 0, .slice none 0 0, .slice none 0 0]) ?_ 1 _ rfl; (with_reducible repeat (first | refine blk_drewN ?_ _ | refine blk_drew ?_ | refine blk_alloc ?_ _)); refine blk_put (cs := #[.string (⟨#[]⟩ : ByteArray), .int .i64 0, .int .i64 0, .slice none 0 0, .slice none 0 0]) ?_ 0 _ rfl; (with_reducible repeat (first | refine blk_drewN ?_ _ | refine blk_drew ?_ | refine blk_alloc ?_ _)); refine blk_far ?_ NB186_185.out _; (with_reducible repeat (first | refine blk_drewN ?_ _ | refine blk_drew ?_ | refine blk_alloc ?_ _)); exact BK186.out) Try.underlying59 rfl (Z24)) rfl ?_
 exact ⟨_, _, Z2, by (with_reducible repeat (first | apply Kd.R_alloc | apply Kd.R_drewN | apply Kd.R_drew)); exact Kd.R_mono (Kd.R_far (p := ⟨gb186, 4, none⟩) (Kd.R_far (p := ⟨gb186, 3, none⟩) (Kd.R_far (p := ⟨gb186, 2, none⟩) (Kd.R_far (p := ⟨gb186, 1, none⟩) (Kd.R_far (p := ⟨gb186, 0, none⟩) (Kd.R_far (p := ⟨gb185, 4, none⟩) (Kd.R_types (Kd.R_types HO192.out BK185.out (Z79)) BK186.out (Z79)) (fun _ hk => hk.1.2) (.slice Ao17 y196.length co17)) (fun _ hk => hk.2) (.string a0_0)) (fun _ hk => hk.2) (.int .i64 a0_1)) (fun _ hk => hk.2) (.int .i64 a0_2)) (fun _ hk => hk.2) (.slice Ao11 y190.length co11)) (fun _ hk => hk.2) (.slice Ao17 y196.length co17)) (fun _ hk => trivial), by (with_reducible repeat (first | apply Kd.R_alloc | apply Kd.R_drewN | apply Kd.R_drew)); exact Kd.R_mono (Kd.R_far (p := ⟨gb186, 4, none⟩) (Kd.R_far (p := ⟨gb186, 3, none⟩) (Kd.R_far (p := ⟨gb186, 2, none⟩) (Kd.R_far (p := ⟨gb186, 1, none⟩) (Kd.R_far (p := ⟨gb186, 0, none⟩) (Kd.R_far (p := ⟨gb185, 4, none⟩) (Kd.R_types (Kd.R_types HO198.out BK185.out (Z79)) BK186.out (Z79)) (fun _ hk => hk.1.2) (.slice Ao17 y196.length co17)) (fun _ hk => hk.2) (.string a0_0)) (fun _ hk => hk.2) (.int .i64 a0_1)) (fun _ hk => hk.2) (.int .i64 a0_2)) (fun _ hk => hk.2) (.slice Ao11 y190.length co11)) (fun _ hk => hk.2) (.slice Ao17 y196.length co17)) (fun _ hk => trivial), Z51⟩

/-! ### spec_l09Own: function 54 -/
def spec_l09Own.l0 : Nat → List (S59) → List (S59) → Int → Option ((List (S59)))
 | 0, _, _, _ => none
 | k + 1, x0, x3, x4 => if x4 < (x0.length : Int) then (if 0 ≤ x4 then ((spec_l09Box.f ((rd_T59 x0 x4).f0) ((rd_T59 x0 x4).f1) ((rd_T59 x0 x4).f2) ((rd_T59 x0 x4).f3) ((rd_T59 x0 x4).f4)).bind fun bt203 => (if x3.length < 1759218604441 then (spec_l09Own.l0 k x0 (x3 ++ [(⟨bt203.1, bt203.2.1, bt203.2.2.1, bt203.2.2.2.1, bt203.2.2.2.2⟩ : S59)]) (wrap64 (x4 + 1))) else (none))) else (none)) else (some x3)
def spec_l09Own.f (k : Nat) (l0 : List (S59)) : Option ((List (S59))) := spec_l09Own.l0 k l0 (([] : List (S59))) 0
theorem spec_l09Own.mono_l : ∀ k, (∀ y0 y1 y2, LeO (spec_l09Own.l0 k y0 y1 y2) (spec_l09Own.l0 (k + 1) y0 y1 y2))
 | 0 => fun _ _ _ r h => by simp [spec_l09Own.l0] at h
 | k + 1 => by
  have ih0 := spec_l09Own.mono_l k
  ·intro y0 y1 y2
   unfold spec_l09Own.l0
   exact tM
theorem spec_l09Own.mono : ∀ a0 k, LeO (spec_l09Own.f k a0) (spec_l09Own.f (k + 1) a0) := by
 intro a0 k
 have ih0 := spec_l09Own.mono_l k
 unfold spec_l09Own.f
 exact tM
set_option maxHeartbeats 40000000 in
set_option maxRecDepth 100000 in
theorem spec_l09Own.calls (k : Nat) (A0 : Option Addr) (c0 : Nat) (l0 : List (S59)) (r : List (S59)) (w : World) (hr0 : Kd.C k59 w A0 l0.length l0) (hc0 : l0.length ≤ c0) (h : spec_l09Own.f k l0 = some r) :
  Calls Try.prog 54 #[.slice A0 l0.length c0] w fun e w' => ∃ v0_ : Value, e = .returned (v0_) ∧ Kd.S k59 59 w' w.heap.size (fun _ => True) v0_ r ∧ Below w.heap.size w w' := by
 have hu59 := Try.underlying59
 have HR0 := Aside0.mk hr0
 have HC0 := Aside0.mk hc0
 clear hr0 hc0
 have HB := Aside0.mk (Below.refl w.heap.size w)
 have H : (spec_l09Own.l0 k l0 (([] : List (S59))) 0) = some r := h
 clear h
 obtain ⟨y199, hy199⟩ : ∃ y_ : List (S59), y_ = (([] : List (S59))) := ⟨_, rfl⟩
 replace H : (spec_l09Own.l0 k l0 y199 0) = some r := by first | (rw [hy199]; with_reducible exact H) | (have H2_ := (Option.bind_some _ _).symm.trans H; rw [hy199]; with_reducible exact H2_) | (have H2_ := (Option.bind_some _ _).symm.trans H; with_reducible exact H2_) | with_reducible exact H | (rw [hy199]; exact H) | exact H
 have Ny199 := Aside0.mk hy199
 clear hy199
 have H' := Aside0.mk H
 clear H
 go_enter Try.func54, Try.ntmps54
 go_wp2_with (first | ((with_reducible refine gate_dst (N := 5) rfl ?_); refine Kd.S_lit k59 _ 59 ?hg (N := 5) ?hd (xs := ([] : List (S59))) (inner := []) (ok := fun _ => True) (okp := fun _ => True) ?hr ?hp (fun _ hk => hk) trivial (Below.refl _ _) (Nat.le_refl _) (Z124) ?_; (case hd => rfl); (case hg => rfl); (case hr => first | (go_simp; done) | (go_simp; rfl)); (case hp => exact (Reps.none _ _)); intro v200 w2 ho3 hb hg_ hnew_; clear hg_ hnew_; (first | rw [← Ny199.out] at ho3 | (simp only [Int.reduceToNat] at ho3; rw [← Ny199.out] at ho3)); have HO201 := Aside0.mk (Kd.S_lower ho3 (below_size (Z0))); replace HB := Aside0.mk (below_step (Z0) hb); clear hb ho3))
 go_loopg [3, 4] k (fun kq v3 v4 w' => ∃ (x3_1 : List (S59)) (x4_1 : Int), v4 = .int .i64 x4_1 ∧ Aside0 (spec_l09Own.l0 kq l0 x3_1 x4_1 = some r) ∧ Aside0 (kq ≤ k) ∧ Aside0 (Kd.S k59 59 w' w.heap.size (fun _ => True) v3 x3_1) ∧ Aside0 (Below w.heap.size w w'))
 case atStart => exact ⟨(y199), (0), (Z3), H', ⟨Nat.le_refl _⟩, ⟨by (with_reducible repeat (first | apply Kd.S_alloc | apply Kd.S_drewN | apply Kd.S_drew)); exact HO201.out⟩, ⟨Z0⟩⟩
 case round =>
  clear H'
  obtain ⟨x3_1, x4_1, rfl, HA, HK1, HO_3, HB⟩ := hrel
  cases gk with
  | zero => exact absurd HA.out (by simp [spec_l09Own.l0])
  | succ k1 =>
   have H := HA.out
   clear HA
   simp only [spec_l09Own.l0] at H
   by_cases c4 : x4_1 < (l0.length : Int)
   ·rw [if_pos c4] at H
    have c4b0 := decide_eq_true c4
    clear c4
    obtain ⟨c5, H⟩ := ifS H
    have c5b0 : decide (0 ≤ x4_1) = true := decide_eq_true c5
    clear c5
    obtain ⟨⟨t203, t204, t205, t206, t209⟩, A6, H⟩ := bindA H
    try dsimp only at H
    obtain ⟨c7, H⟩ := ifS H
    have LMc7 := Aside0.mk c7
    clear c7
    obtain ⟨y212, hy212⟩ : ∃ y_ : List (S59), y_ = (x3_1 ++ [(⟨t203, t204, t205, t206, t209⟩ : S59)]) := ⟨_, rfl⟩
    replace H : (spec_l09Own.l0 k1 l0 y212 (wrap64 (x4_1 + 1))) = some r := by first | (rw [hy212]; with_reducible exact H) | (have H2_ := (Option.bind_some _ _).symm.trans H; rw [hy212]; with_reducible exact H2_) | (have H2_ := (Option.bind_some _ _).symm.trans H; with_reducible exact H2_) | with_reducible exact H | (rw [hy212]; exact H) | exact H
    have Ny212 := Aside0.mk hy212
    clear hy212
    have H' := Aside0.mk H
    clear H
    have p202 : 0 ≤ (x4_1 : Int) := of_decide_eq_true (Z4)
    have q202 : x4_1 < (l0.length : Int) := of_decide_eq_true (Z4)
    obtain ⟨ad202, A202_3, c202_3, A202_4, c202_4, e202, hx202_0, hx202_1, hx202_2, hx202_3, hx202_4, hl202_3, hi202_3, hl202_4, hi202_4⟩ := at_T59 HR0.out x4_1 p202 q202
    cases e202
    replace hx202_0 := cB HB.out hx202_0
    replace hx202_1 := cB HB.out hx202_1
    replace hx202_2 := cB HB.out hx202_2
    replace hx202_3 := cB HB.out hx202_3
    replace hx202_4 := cB HB.out hx202_4
    have HR202_3 := Aside0.mk hi202_3
    have HC202_3 := Aside0.mk hl202_3
    clear hi202_3 hl202_3
    have HR202_4 := Aside0.mk hi202_4
    have HC202_4 := Aside0.mk hl202_4
    clear hi202_4 hl202_4
    replace p202 := eq_true p202
    replace q202 := eq_true q202
    go_wp2_with (first | ((with_reducible refine gate_callee (f := 78) rfl ?_); refine goesL_ (some 17) rfl rfl Try.func78 (Z24) rfl #[.agg #[.string ((rd_T59 l0 x4_1).f0), .int .i64 ((rd_T59 l0 x4_1).f1), .int .i64 ((rd_T59 l0 x4_1).f2), .slice A202_3 ((rd_T59 l0 x4_1).f3).length c202_3, .slice A202_4 ((rd_T59 l0 x4_1).f4).length c202_4]] rfl (Z1) ?_; (with_reducible refine (spec_l09Box.calls ((rd_T59 l0 x4_1).f0) ((rd_T59 l0 x4_1).f1) ((rd_T59 l0 x4_1).f2) _ _ ((rd_T59 l0 x4_1).f3) _ _ ((rd_T59 l0 x4_1).f4) t203 t204 t205 t206 t209 _ ?side1 ?side2 ?side3 ?side4 A6.out).mono ?_); (case side1 => have h_ := Kd.C_below HR202_3.out HB.out; exact tC); (case side2 => exact HC202_3.out); (case side3 => have h_ := Kd.C_below HR202_4.out HB.out; exact tC); (case side4 => exact HC202_4.out); rintro e w8 ⟨v207, v210, rfl, ho0, ho1, hb⟩; refine ⟨_, rfl, ?_⟩; replace HO_3 := Aside0.mk (Kd.S_mono (Kd.S_told (Kd.S_told (Kd.S_old (Z108) hb) (Kd.R_base ho0)) (Kd.R_base ho1)) (fun _ h_ => h_.1)); have HO208 := Aside0.mk (Kd.R_lower ho0 (below_size (Z0))); have HO211 := Aside0.mk (Kd.R_lower ho1 (below_size (Z0))); replace HB := Aside0.mk (below_step (Z0) hb); (try clear hb); (try clear ho0); (try clear ho1); obtain ⟨Ao10, co10, eo10⟩ := Kd.R_slice HO208.out; subst eo10; obtain ⟨Ao11, co11, eo11⟩ := Kd.R_slice HO211.out; subst eo11) | ((with_reducible refine gate_builtin (b := .append) (xs := #[.tmp 12, .tmp 18]) rfl ?_); at_builtin; refine Kd.S_append k59 (w0 := w) w.heap.size rfl (.tmp 12) (.tmp 18) 30 59 (.agg #[(.string ⟨#[]⟩), (.int .i64 0), (.int .i64 0), (.slice none 0 0), (.slice none 0 0)]) 80 rfl Try.underlying30 info59 rfl (Z79) (Z43) u3 x3_1 (⟨t203, t204, t205, t206, t209⟩ : S59) [.string t203, .int .i64 t204, .int .i64 t205, .slice Ao10 t206.length co10, .slice Ao11 t209.length co11] (fun _ => True) (fun k_ => some k_ = (.slice Ao10 t206.length co10 : Value).ownBlock ∨ some k_ = (.slice Ao11 t209.length co11 : Value).ownBlock) rfl rfl ?aP (fun k_ hk_ => hk_.elim (fun h_ => ((Kd.R_mono (ok' := fun k_ => ((fun _ => True)) k_ ∧ some k_ ≠ (u3 : Value).ownBlock) (Kd.R_apart' (HO208.out) (Kd.S_typed HO_3.out) (Z79)) (fun k_ hk => ⟨trivial, hk.2⟩))).1 k_ h_.symm) (fun h_ => ((Kd.R_mono (ok' := fun k_ => ((fun _ => True)) k_ ∧ some k_ ≠ (u3 : Value).ownBlock) (Kd.R_apart' (HO211.out) (Kd.S_typed HO_3.out) (Z79)) (fun k_ hk => ⟨trivial, hk.2⟩))).1 k_ h_.symm)) ?aF ?aO ?aB ?aS ?aL ?_; (case aP => exact k59_mkM _ _ _ (⟨t203, t204, t205, t206, t209⟩ : S59) (Kd.R_mono (Kd.R_tight rfl (Kd.R_mono (ok' := fun k_ => ((fun _ => True)) k_ ∧ some k_ ≠ (u3 : Value).ownBlock) (Kd.R_apart' (HO208.out) (Kd.S_typed HO_3.out) (Z79)) (fun k_ hk => ⟨trivial, hk.2⟩))) (fun _ h_ => Or.inl h_)) (Kd.R_mono (Kd.R_tight rfl (Kd.R_mono (ok' := fun k_ => ((fun _ => True)) k_ ∧ some k_ ≠ (u3 : Value).ownBlock) (Kd.R_apart' (HO211.out) (Kd.S_typed HO_3.out) (Z79)) (fun k_ hk => ⟨trivial, hk.2⟩))) (fun _ h_ => Or.inr (h_)))); (case aB => exact (Z0)); (case aF => exact (fun _ _ => trivial)); (case aO => exact (by (with_reducible repeat (first | apply Kd.S_alloc | apply Kd.S_drewN | apply Kd.S_drew)); exact Kd.S_mono HO_3.out (fun k_ hk => ⟨trivial, fun e_ => e_.elim (fun h_ => hk.1.2 h_) (fun h_ => hk.2 h_)⟩))); (case aS => exact (below_size (Z0))); (case aL => have := LMc7.out; omega); intro v213 w9 ho hb hg hat; rw [← Ny212.out] at ho; have n0_ := Aside0.mk (hb); have n1_ := Aside0.mk (ho); clear HB; clear HO_3; clear HO208; clear HO211; have HB := n0_; have HO214 := n1_; clear n0_ n1_; clear ho hb hg hat))
    go_roundg k1
    case measure => have := HK1.out; omega
    case rel => exact ⟨(y212), (wrap64 (x4_1 + 1)), (Z3), H', ⟨Z110⟩, ⟨by (with_reducible repeat (first | apply Kd.S_alloc | apply Kd.S_drewN | apply Kd.S_drew)); exact HO214.out⟩, ⟨Z0⟩⟩
   ·rw [if_neg c4] at H
    have c4b0 := decide_eq_false c4
    clear c4
    obtain rfl := Option.some.inj H
    go_wp2
    go_ret
    exact ⟨_, Z2, Z108, Z0⟩

/-! ### spec_l09Mail: function 55 -/
def spec_l09Mail.l0 : Nat → Int → Int → ByteArray → Int → Int → List (S71) → List ByteArray → Option (Int)
 | 0, _, _, _, _, _, _, _ => none
 | k + 1, x1, x5, x216000, x216001, x216002, x216003, x216004 => if x5 < (x216003.length : Int) then (if 0 ≤ x5 then (if ((rd_T71 x216003 x5).f0) = x1 then (some x5) else (spec_l09Mail.l0 k x1 (wrap64 (x5 + 1)) x216000 x216001 x216002 x216003 x216004)) else (none)) else (some (-1))
def spec_l09Mail.f (k : Nat) (a0_0 : ByteArray) (a0_1 : Int) (a0_2 : Int) (l0_3 : List (S71)) (l0_4 : List ByteArray) (a1 : Int) : Option (Int) := spec_l09Mail.l0 k a1 0 a0_0 a0_1 a0_2 l0_3 l0_4
theorem spec_l09Mail.mono_l : ∀ k, (∀ y0 y1 y2 y3 y4 y5 y6, LeO (spec_l09Mail.l0 k y0 y1 y2 y3 y4 y5 y6) (spec_l09Mail.l0 (k + 1) y0 y1 y2 y3 y4 y5 y6))
 | 0 => fun _ _ _ _ _ _ _ r h => by simp [spec_l09Mail.l0] at h
 | k + 1 => by
  have ih0 := spec_l09Mail.mono_l k
  ·intro y0 y1 y2 y3 y4 y5 y6
   unfold spec_l09Mail.l0
   exact tM
theorem spec_l09Mail.mono : ∀ a0 a1 a2 a3 a4 a5 k, LeO (spec_l09Mail.f k a0 a1 a2 a3 a4 a5) (spec_l09Mail.f (k + 1) a0 a1 a2 a3 a4 a5) := by
 intro a0 a1 a2 a3 a4 a5 k
 have ih0 := spec_l09Mail.mono_l k
 unfold spec_l09Mail.f
 exact tM
set_option maxHeartbeats 40000000 in
set_option maxRecDepth 100000 in
theorem spec_l09Mail.calls (k : Nat) (a0_0 : ByteArray) (a0_1 : Int) (a0_2 : Int) (A0_3 : Option Addr) (c0_3 : Nat) (l0_3 : List (S71)) (A0_4 : Option Addr) (c0_4 : Nat) (l0_4 : List ByteArray) (a1 : Int) (r : Int) (w : World) (hr0_3 : Kd.C k71 w A0_3 l0_3.length l0_3) (hc0_3 : l0_3.length ≤ c0_3) (hr0_4 : Kd.C Kd.string w A0_4 l0_4.length l0_4) (hc0_4 : l0_4.length ≤ c0_4) (h : spec_l09Mail.f k a0_0 a0_1 a0_2 l0_3 l0_4 a1 = some r) :
  Calls Try.prog 55 #[.agg #[.string a0_0, .int .i64 a0_1, .int .i64 a0_2, .slice A0_3 l0_3.length c0_3, .slice A0_4 l0_4.length c0_4], .int .i64 a1] w fun e w' => e = .returned (.int .i64 r) ∧ Below w.heap.size w w' := by
 have hu59 := Try.underlying59
 have HR0_3 := Aside0.mk hr0_3
 have HC0_3 := Aside0.mk hc0_3
 clear hr0_3 hc0_3
 have HR0_4 := Aside0.mk hr0_4
 have HC0_4 := Aside0.mk hc0_4
 clear hr0_4 hc0_4
 have HB := Aside0.mk (Below.refl w.heap.size w)
 have H : (spec_l09Mail.l0 k a1 0 a0_0 a0_1 a0_2 l0_3 l0_4) = some r := h
 clear h
 have H' := Aside0.mk H
 clear H
 go_enter Try.func55, Try.ntmps55
 go_wp2_with (first | ((with_reducible refine gate_dst (N := 2) rfl ?_); refine bxE 2 #[.string a0_0, .int .i64 a0_1, .int .i64 a0_2, .slice A0_3 l0_3.length c0_3, .slice A0_4 l0_4.length c0_4] 59 ?_; intro gb215 hg w3 hbox hb; have BK215 := Aside0.mk (hbox); have GW215 := Aside0.mk ((szE w hg (Z0))); have GE215 := Aside0.mk ((szE w hg (Z0))); replace HB := Aside0.mk (below_step (Z0) hb); clear hb hbox hg))
 go_loopg [5] k (fun kq v5 w' => ∃ (x5_1 : Int), v5 = .int .i64 x5_1 ∧ Aside0 (spec_l09Mail.l0 kq a1 x5_1 a0_0 a0_1 a0_2 l0_3 l0_4 = some r) ∧ Aside0 (kq ≤ k) ∧ Aside0 (w'.heap[gb215]? = some (.cells #[.string a0_0, .int .i64 a0_1, .int .i64 a0_2, (.slice A0_3 l0_3.length c0_3), (.slice A0_4 l0_4.length c0_4)] 59 (0, 0))) ∧ Aside0 (Below w.heap.size w w'))
 case atStart => exact ⟨(0), (Z3), H', ⟨Nat.le_refl _⟩, ⟨by (with_reducible repeat (first | refine blk_drewN ?_ _ | refine blk_drew ?_ | refine blk_alloc ?_ _)); exact BK215.out⟩, ⟨Z91⟩⟩
 case round =>
  clear H'
  obtain ⟨x5_1, rfl, HA, HK1, BK215, HB⟩ := hrel
  cases gk with
  | zero => exact absurd HA.out (by simp [spec_l09Mail.l0])
  | succ k1 =>
   have H := HA.out
   clear HA
   simp only [spec_l09Mail.l0] at H
   by_cases c4 : x5_1 < (l0_3.length : Int)
   ·rw [if_pos c4] at H
    have c4b0 := decide_eq_true c4
    clear c4
    obtain ⟨c5, H⟩ := ifS H
    have c5b0 : decide (0 ≤ x5_1) = true := decide_eq_true c5
    clear c5
    by_cases c6 : ((rd_T71 l0_3 x5_1).f0) = a1
    ·rw [if_pos c6] at H
     have c6b0 := beq_iff_eq.mpr c6
     have c6b1 := bne_eq_false_iff_eq.mpr c6
     clear c6
     obtain rfl := Option.some.inj H
     obtain ⟨hcz7_0, hcz7_1, hcz7_2, hcz7_3, hcz7_4⟩ := bc5 BK215.out
     obtain ⟨hfz7_0, hfz7_1, hfz7_2, hfz7_3, hfz7_4⟩ := bf5 BK215.out
     have p216 : 0 ≤ (x5_1 : Int) := of_decide_eq_true (Z4)
     have q216 : x5_1 < (l0_3.length : Int) := of_decide_eq_true (Z4)
     obtain ⟨ad216, e216, hx216_0, hx216_1, hx216_2⟩ := at_T71 HR0_3.out x5_1 p216 q216
     cases e216
     replace hx216_0 := cB HB.out hx216_0
     replace hx216_1 := cB HB.out hx216_1
     replace hx216_2 := cB HB.out hx216_2
     replace p216 := eq_true p216
     replace q216 := eq_true q216
     go_wp2
     go_ret
     exact ⟨Z2, Z91⟩
    ·rw [if_neg c6] at H
     have c6b0 := beq_eq_false_iff_ne.mpr c6
     have c6b1 := bne_iff_ne.mpr c6
     have H' := Aside0.mk H
     clear H
     obtain ⟨hcz8_0, hcz8_1, hcz8_2, hcz8_3, hcz8_4⟩ := bc5 BK215.out
     obtain ⟨hfz8_0, hfz8_1, hfz8_2, hfz8_3, hfz8_4⟩ := bf5 BK215.out
     have p216 : 0 ≤ (x5_1 : Int) := of_decide_eq_true (Z4)
     have q216 : x5_1 < (l0_3.length : Int) := of_decide_eq_true (Z4)
     obtain ⟨ad216, e216, hx216_0, hx216_1, hx216_2⟩ := at_T71 HR0_3.out x5_1 p216 q216
     cases e216
     replace hx216_0 := cB HB.out hx216_0
     replace hx216_1 := cB HB.out hx216_1
     replace hx216_2 := cB HB.out hx216_2
     replace p216 := eq_true p216
     replace q216 := eq_true q216
     go_wp2
     go_roundg k1
     case measure => have := HK1.out; omega
     case rel => exact ⟨(wrap64 (x5_1 + 1)), (Z3), H', ⟨Z110⟩, ⟨by (with_reducible repeat (first | refine blk_drewN ?_ _ | refine blk_drew ?_ | refine blk_alloc ?_ _)); exact BK215.out⟩, ⟨Z91⟩⟩
   ·rw [if_neg c4] at H
    have c4b0 := decide_eq_false c4
    clear c4
    obtain rfl := Option.some.inj H
    obtain ⟨hcz9_0, hcz9_1, hcz9_2, hcz9_3, hcz9_4⟩ := bc5 BK215.out
    obtain ⟨hfz9_0, hfz9_1, hfz9_2, hfz9_3, hfz9_4⟩ := bf5 BK215.out
    go_wp2
    go_ret
    exact ⟨Z2, Z91⟩

/-! ### spec_l09Flags: function 56 -/
def spec_l09Flags.f (a0 : Int) (a1 : Int) (a2 : Int) : Option (Int) := if a1 = 1 then (some a2) else (if a1 = 2 then (some (Go.bits .or .i64 a0 a2)) else (some (Go.bits .andNot .i64 a0 a2)))
set_option maxHeartbeats 40000000 in
set_option maxRecDepth 100000 in
theorem spec_l09Flags.calls (a0 : Int) (a1 : Int) (a2 : Int) (r : Int) (w : World) (h : spec_l09Flags.f a0 a1 a2 = some r) :
  Calls Try.prog 56 #[.int .i64 a0, .int .i64 a1, .int .i64 a2] w fun e w' => e = .returned (.int .i64 r) ∧ Drawn0 w w' := by
 have H : (if a1 = 1 then (some a2) else (if a1 = 2 then (some (Go.bits .or .i64 a0 a2)) else (some (Go.bits .andNot .i64 a0 a2)))) = some r := h
 clear h
 by_cases c4 : a1 = 1
 ·rw [if_pos c4] at H
  have c4b0 := beq_iff_eq.mpr c4
  have c4b1 := bne_eq_false_iff_eq.mpr c4
  clear c4
  obtain rfl := Option.some.inj H
  go_enter Try.func56, Try.ntmps56
  go_wp2
  go_ret
  exact ⟨Z3, Z13⟩
 ·rw [if_neg c4] at H
  have c4b0 := beq_eq_false_iff_ne.mpr c4
  have c4b1 := bne_iff_ne.mpr c4
  by_cases c5 : a1 = 2
  ·rw [if_pos c5] at H
   have c5b0 := beq_iff_eq.mpr c5
   have c5b1 := bne_eq_false_iff_eq.mpr c5
   clear c5
   obtain rfl := Option.some.inj H
   go_enter Try.func56, Try.ntmps56
   go_wp2
   go_ret
   exact ⟨Z3, Z13⟩
  ·rw [if_neg c5] at H
   have c5b0 := beq_eq_false_iff_ne.mpr c5
   have c5b1 := bne_iff_ne.mpr c5
   obtain rfl := Option.some.inj H
   go_enter Try.func56, Try.ntmps56
   go_wp2
   go_ret
   exact ⟨Z3, Z13⟩

-- EXTERNAL: function 32 (spec_l09Apply)
/-- What l09Apply leaves: with no code the boxes, in memory of their own. -/
def ApRet (w : World) (q : List S59 × Int) (e : Ending) (w' : World) : Prop :=
 ∃ v, e = .returned (.tuple #[v, .int .i64 q.2]) ∧ (q.2 = 0 → Kd.S k59 59 w' w.heap.size (fun _ => True) v q.1) ∧ Below w.heap.size w w'
theorem old_cell {w W' : World} (hk : Below w.heap.size w W') {p : Addr} {u : Value} (h : w.cell? p = some u) : W'.cell? p = some u := (hk.cell (World.block_lt_of_cell? w _ h)).trans h
/-- A literal with no elements, where its block lies. -/
theorem R_empty_at {α : Type} (d : Kd α) {W : World} {base e g : Nat} {ok : Nat → Prop} (hb : W.heap[g]? = some (.cells #[] e (0, 0))) (hbase : base ≤ g) (hok : ok g) : Kd.R d e W base ok (.slice (some ⟨g, 0, none⟩) 0 0) [] :=
 ⟨fun k hk => (by simp [Value.ownBlock] at hk; exact hk ▸ hok), [], ⟨Z124, .inr ⟨g, 0, #[], rfl, hbase, hb, Nat.le_refl _, Nat.zero_le _, Z124, Z124⟩⟩, Reps.none _ _⟩
/-- append of one element that lies in a block of its own, wherever. -/
theorem S_append_at {P : Program} {ops : Array Oper} {o : Oper} {a : Act} {Q : Exit → Act → World → Prop} {Kc : Act → World → Prop} {α : Type} (d : Kd α) {w0 W : World} (base : Nat) (hw : Region.wanted o (yielded ops a.tmps) = true) (s x : Operand) (t e : TypeId) (z : Value) (bytes : Nat)
  (ho : o.op = .call { callee := .builtin .append, args := #[s, x], argTypes := #[t, t] })
  (ht : P.underlying t = some (.slice e)) (hinfo : (P.info? e).map (fun i => (i.zero, i.size, i.bytes)) = some (some z, d.sz, bytes)) (hz : z.cells.size = d.sz) (hs0 : 0 < d.sz) (hb0 : 0 < bytes)
  (v : Value) (xs : List α) (p : α) (cs : List Value) (gx c : Nat) (ok okp : Nat → Prop) (hs : a.eval s = v) (hx : a.eval x = .slice (some ⟨gx, 0, none⟩) 1 c) (hblk : W.heap[gx]? = some (.cells cs.toArray e (0, 0))) (hp : d.M W base okp p cs) (hokp : ∀ k, okp k → ok k ∧ some k ≠ v.ownBlock) (hfresh : ∀ k, W.heap.size ≤ k → ok k)
  (HO : Kd.S d e W base (fun k => ok k ∧ ¬ okp k) v xs) (HB : Below base w0 W) (hbase : base ≤ W.heap.size) (hl : (xs.length + 1) * bytes ≤ 140737488355328)
  (h : ∀ v1 w1, Kd.S d e w1 base ok v1 (xs ++ [p]) → Below base w0 w1 → W.grownBy w1 v.ownBlock → (v1.ownBlock = v.ownBlock ∨ ∃ b, v1.ownBlock = some b ∧ W.heap.size ≤ b) → Kc (a.put o.dst v1) w1) :
  if Region.wanted o (yielded ops a.tmps) = true then Oper.wp P o a W Kc Q else Kc (a.put o.dst undef) W := by
 obtain ⟨f, hf, hR⟩ := Kd.S_tag HO xs.length okp (fun _ hk h2 => h2.2 hk)
 refine Kd.R_append_rows_step (Kd.tag f d) (Rr := fun q c => q = (p, xs.length) ∧ c = cs) base hw s x t e z bytes ho ht hinfo hz hs0 hb0 v xs.zipIdx [(p, xs.length)] (some ⟨gx, 0, none⟩) 1 c ok okp hs hx (Kd.R_mono hR (fun _ hk => hk.1)) ⟨rfl, Z79, fun _ => ⟨_, rfl, fun j q hj => ?_⟩⟩ ?_ hokp hfresh HB hbase (by rw [List.length_zipIdx]; exact hl) ?_
 ·obtain rfl : j = 0 := by
   rcases j with _ | j
   ·rfl
   ·simp at hj
  simp at hj
  refine ⟨cs, d.K_len (d.K_of_M hp), ⟨hj.symm, rfl⟩, fun i u hi => ?_⟩
  have := blk_cell hblk i
  have e1 : ((⟨gx, 0, none⟩ : Addr).add (0 * (Kd.tag f d).sz + i)) = ⟨gx, i, none⟩ := by
   rw [Nat.zero_mul, Nat.zero_add]; unfold Addr.add; split
   ·next h0 => simp_all
   ·simp
  rw [e1, this]; simpa using hi
 ·rintro q c ⟨rfl, rfl⟩
  exact d.M_mono (fun k hk => ⟨hk, hf k hk⟩) hp
 ·intro v1 w1 hr
  rw [← Kd.zip_snoc] at hr
  exact h v1 w1 ⟨f, hr⟩
/-- .. of which two values were made a while ago (at y1, y2). -/
theorem S_append_at2 {P : Program} {ops : Array Oper} {o : Oper} {a : Act} {Q : Exit → Act → World → Prop} {Kc : Act → World → Prop} {α : Type} (d : Kd α) {w0 W : World} (base : Nat) (hw : Region.wanted o (yielded ops a.tmps) = true) (s x : Operand) (t e : TypeId) (z : Value) (bytes : Nat)
  (ho : o.op = .call { callee := .builtin .append, args := #[s, x], argTypes := #[t, t] })
  (ht : P.underlying t = some (.slice e)) (hinfo : (P.info? e).map (fun i => (i.zero, i.size, i.bytes)) = some (some z, d.sz, bytes)) (hz : z.cells.size = d.sz) (hs0 : 0 < d.sz) (hb0 : 0 < bytes)
  (v : Value) (xs : List α) (p : α) (csf : Nat → Nat → List Value) (gx c g1 g2 : Nat) (y1 y2 : Operand) (ok okp : Nat → Prop) (hy1 : a.eval y1 = .slice (some ⟨g1, 0, none⟩) 0 0) (hy2 : a.eval y2 = .slice (some ⟨g2, 0, none⟩) 0 0) (hs : a.eval s = v) (hx : a.eval x = .slice (some ⟨gx, 0, none⟩) 1 c) (hblk : W.heap[gx]? = some (.cells (csf g1 g2).toArray e (0, 0))) (hp : d.M W base okp p (csf g1 g2)) (hokp : ∀ k, okp k → ok k ∧ some k ≠ v.ownBlock) (hfresh : ∀ k, W.heap.size ≤ k → ok k)
  (HO : Kd.S d e W base (fun k => ok k ∧ ¬ okp k) v xs) (HB : Below base w0 W) (hbase : base ≤ W.heap.size) (hl : (xs.length + 1) * bytes ≤ 140737488355328)
  (h : ∀ v1 w1, Kd.S d e w1 base ok v1 (xs ++ [p]) → Below base w0 w1 → W.grownBy w1 v.ownBlock → (v1.ownBlock = v.ownBlock ∨ ∃ b, v1.ownBlock = some b ∧ W.heap.size ≤ b) → Kc (a.put o.dst v1) w1) :
  if Region.wanted o (yielded ops a.tmps) = true then Oper.wp P o a W Kc Q else Kc (a.put o.dst undef) W :=
 S_append_at d base hw s x t e z bytes ho ht hinfo hz hs0 hb0 v xs p (csf g1 g2) gx c ok okp hs hx hblk hp hokp hfresh HO HB hbase hl h
theorem blk_made {W : World} {o : Obj} {g : Nat} (h : g = W.heap.size) : (W.alloc o).heap[g]? = some o := by rw [h]; simpa using heap_alloc_new W o
theorem findS_ev (u : ByteArray) (l : List S59) (hl : l.length ≤ 1099511627776) : Ev (fun k => spec_l09Find.f k l u) (idxN u l 0) := by
 have loop : ∀ (m i : Nat), i + m = l.length → Ev (fun k => spec_l09Find.l0 k l u i) (idxN u (l.drop i) i) := by
  intro m
  induction m with
  | zero => intro i hi; rw [List.drop_of_length_le (Z43)]; exact Ev.step (fun _ => spec_l09Find.l0.eq_2 ..) (ev_neg (Z43) (ev_some rfl))
  | succ m ih =>
   intro i hi
   have hlt : i < l.length := by omega
   refine Ev.step (fun _ => spec_l09Find.l0.eq_2 ..) (ev_pos (Z43) (ev_pos (Z43) ?_))
   rw [idxN_drop u l i hlt, w64n (Z43)]
   by_cases h : (rd_T59 l (i : Int)).f0.toList = u.toList
   ·rw [if_pos h]; exact ev_pos h (ev_some rfl)
   ·rw [if_neg h]; exact ev_neg h (ih (i + 1) (Z43))
 unfold spec_l09Find.f
 have := loop l.length 0 (Z43)
 rwa [List.drop_zero] at this
theorem mailS_ev (n : ByteArray) (v x : Int) (l : List S71) (ks : List ByteArray) (hl : l.length ≤ 1099511627776) (u : Int) : Ev (fun k => spec_l09Mail.f k n v x l ks u) (idxU u l 0) := by
 have loop : ∀ (m i : Nat), i + m = l.length → Ev (fun k => spec_l09Mail.l0 k u i n v x l ks) (idxU u (l.drop i) i) := by
  intro m
  induction m with
  | zero => intro i hi; rw [List.drop_of_length_le (Z43)]; exact Ev.step (fun _ => spec_l09Mail.l0.eq_2 ..) (ev_neg (Z43) (ev_some rfl))
  | succ m ih =>
   intro i hi
   have hlt : i < l.length := by omega
   refine Ev.step (fun _ => spec_l09Mail.l0.eq_2 ..) (ev_pos (Z43) (ev_pos (Z43) ?_))
   rw [idxU_drop u l i hlt, w64n (Z43)]
   by_cases h : (rd_T71 l (i : Int)).f0 = u
   ·rw [if_pos h]; exact ev_pos h (ev_some rfl)
   ·rw [if_neg h]; exact ev_neg h (ih (i + 1) (Z43))
 unfold spec_l09Mail.f
 have := loop l.length 0 (Z43)
 rwa [List.drop_zero] at this
theorem ownS_ev (l : List S59) (hl : l.length ≤ 1048576) (hm : ∀ b ∈ l, b.f3.length ≤ 1048576 ∧ b.f4.length ≤ 1048576) : Ev (fun k => spec_l09Own.f k l) l := by
 have loop : ∀ (m i : Nat), i + m = l.length → Ev (fun k => spec_l09Own.l0 k l (l.take i) i) l := by
  intro m
  induction m with
  | zero => intro i hi; rw [List.take_of_length_le (Z43)]; exact Ev.step (fun _ => spec_l09Own.l0.eq_2 ..) (ev_neg (Z43) (ev_some rfl))
  | succ m ih =>
   intro i hi
   have hlt : i < l.length := by omega
   have hz := hm l[i] (List.getElem_mem hlt)
   refine Ev.step (fun _ => spec_l09Own.l0.eq_2 ..) (ev_pos (Z43) (ev_pos (Z43) ?_))
   rw [rdBox l i hlt, w64n (Z43)]
   have e : spec_l09Box.f l[i].f0 l[i].f1 l[i].f2 l[i].f3 l[i].f4 = some (l[i].f0, l[i].f1, l[i].f2, l[i].f3, l[i].f4) := by
    unfold spec_l09Box.f
    simp
    omega
   rw [e]
   refine ev_pos (by rw [List.length_take]; omega) ?_
   have := ih (i + 1) (Z43)
   rwa [List.take_succ_eq_append_getElem hlt] at this
 unfold spec_l09Own.f
 exact loop l.length 0 (Z43)
theorem item_cells {w : World} {ad : Addr} {l : List S86} (h : Kd.C k86 w (some ad) l.length l) (k : Nat) (hk : k < l.length) : w.cell? (ad.add (k * 2)) = some (.string (rd_T86 l (k : Int)).f0) ∧ w.cell? ⟨(ad.add (k * 2)).block, (ad.add (k * 2)).off + 1, none⟩ = some (.string (rd_T86 l (k : Int)).f1) := by
 obtain ⟨ad', e, h0, h1⟩ := at_T86 h (k : Int) (Z43) (Z43)
 cases e
 exact ⟨h0, h1⟩
theorem s_flags (was mode flags : Int) (w : World) : Calls Try.prog 56 #[.int .i64 was, .int .i64 mode, .int .i64 flags] w fun e w' => e = .returned (.int .i64 (newFlags mode was flags)) ∧ w' = w := by
 by_cases q1 : mode = 1
 ·have e2 : newFlags mode was flags = flags := if_pos q1
  have t1 : (mode == 1) = true := beq_iff_eq.mpr q1
  rw [e2]
  clear e2 q1
  go_enter Try.func56, Try.ntmps56
  go_wp2
  go_ret
  exact ⟨rfl, rfl⟩
 have t1 : (mode == 1) = false := beq_eq_false_iff_ne.mpr q1
 by_cases q2 : mode = 2
 ·have e2 : newFlags mode was flags = Go.bits .or .i64 was flags := by unfold newFlags; rw [if_neg q1, if_pos q2]
  have t2 : (mode == 2) = true := beq_iff_eq.mpr q2
  rw [e2]
  clear e2 q1 q2
  go_enter Try.func56, Try.ntmps56
  go_wp2
  go_ret
  exact ⟨rfl, rfl⟩
 have e2 : newFlags mode was flags = Go.bits .andNot .i64 was flags := by unfold newFlags; rw [if_neg q1, if_neg q2]
 have t2 : (mode == 2) = false := beq_eq_false_iff_ne.mpr q2
 rw [e2]
 clear e2 q1 q2
 go_enter Try.func56, Try.ntmps56
 go_wp2
 go_ret
 exact ⟨rfl, rfl⟩
set_option maxHeartbeats 16000000 in
set_option maxRecDepth 100000 in
theorem s_apply (A0 : Option Addr) (c0 : Nat) (xs : List S59) (kind uid mode flags : Int) (nm : ByteArray) (A : Option Addr) (c : Nat) (l : List S86) (w : World) (hx : Kd.C k59 w A0 xs.length xs) (hc0 : xs.length ≤ c0) (hit : Kd.C k86 w A l.length l)
  (hX : xs.length ≤ 1048576) (hM : ∀ b ∈ xs, b.f3.length ≤ 1048576 ∧ b.f4.length ≤ 1048576) (hl : l.length ≤ 1048576) :
  Calls Try.prog 32 #[.slice A0 xs.length c0, .agg #[.int .i64 kind, .int .i64 uid, .int .i64 mode, .int .i64 flags, .string nm, .slice A l.length c]] w (ApRet w (mutL xs kind uid mode flags nm l)) := by
 have HX := Aside0.mk (Kd.C_alloc hx (.cells #[.int .i64 kind, .int .i64 uid, .int .i64 mode, .int .i64 flags, .string nm, .slice A l.length c] 65))
 have HIT := Aside0.mk (Kd.C_alloc hit (.cells #[.int .i64 kind, .int .i64 uid, .int .i64 mode, .int .i64 flags, .string nm, .slice A l.length c] 65))
 have BX := Aside0.mk (show (w.alloc (.cells #[.int .i64 kind, .int .i64 uid, .int .i64 mode, .int .i64 flags, .string nm, .slice A l.length c] 65)).heap[w.heap.size]? = some (.cells #[.int .i64 kind, .int .i64 uid, .int .i64 mode, .int .i64 flags, .string nm, .slice A l.length c] 65 (0, 0)) from by simpa using heap_alloc_new w _)
 have HB := Aside0.mk (show Below w.heap.size w (w.alloc (.cells #[.int .i64 kind, .int .i64 uid, .int .i64 mode, .int .i64 flags, .string nm, .slice A l.length c] 65)) from Below.alloc (Below.refl _ _) (Nat.le_refl _) _)
 have HZ := Aside0.mk (show w.heap.size < (w.alloc (.cells #[.int .i64 kind, .int .i64 uid, .int .i64 mode, .int .i64 flags, .string nm, .slice A l.length c] 65)).heap.size from by simp)
 obtain ⟨k1, hk1⟩ := (findS_ev nm xs (Z43)).rounds
 have HF := Aside0.mk hk1
 obtain ⟨k2, hk2⟩ := (ownS_ev xs hX hM).rounds
 have HO := Aside0.mk hk2
 have HM := Aside0.mk hM
 clear hx hit hM hk1 hk2
 go_enter Try.func32, Try.ntmps32
 go_upto_region 1 with (fail)
 generalize hW1 : w.alloc (.cells #[.int .i64 kind, .int .i64 uid, .int .i64 mode, .int .i64 flags, .string nm, .slice A l.length c] 65) = W1 at HX HIT BX HB HZ ⊢
 clear hW1
 generalize hx0 : w.heap.size = x0 at BX ⊢
 have HX0 := Aside0.mk hx0
 clear hx0
 have y4 : W1.cell? ⟨x0, 4, none⟩ = some (.string nm) := (blk_cell BX.out 4).trans rfl
 go_wp2_with fail
 refine (spec_l09Find.calls k1 A0 c0 xs nm (idxN nm xs 0) _ (by with_reducible repeat (first | exact HX.out | apply Kd.C_drewN | apply Kd.C_drew)) hc0 HF.out).mono ?_
 rintro e w2 ⟨rfl, hd⟩
 have hb2 : Below W1.heap.size W1 w2 := by obtain ⟨nd, rfl⟩ := hd; exact below_drewN (Below.refl _ _) _
 have HX2 := Aside0.mk (Kd.C_below HX.out hb2)
 have HIT2 := Aside0.mk (Kd.C_below HIT.out hb2)
 have BX2 := Aside0.mk (blk_below BX.out hb2)
 have HB2 := Aside0.mk (Below.trans HB.out (hb2.mono (Nat.le_of_lt HZ.out)))
 have HZ2 := Aside0.mk (show w.heap.size < w2.heap.size from Nat.lt_of_lt_of_le HZ.out hb2.size)
 clear HX HIT BX HB HZ y4 hb2 hd
 have y0 : w2.cell? ⟨x0, 0, none⟩ = some (.int .i64 kind) := (blk_cell BX2.out 0).trans rfl
 have y1 : w2.cell? ⟨x0, 1, none⟩ = some (.int .i64 uid) := (blk_cell BX2.out 1).trans rfl
 have y2 : w2.cell? ⟨x0, 2, none⟩ = some (.int .i64 mode) := (blk_cell BX2.out 2).trans rfl
 have y3 : w2.cell? ⟨x0, 3, none⟩ = some (.int .i64 flags) := (blk_cell BX2.out 3).trans rfl
 have y4 : w2.cell? ⟨x0, 4, none⟩ = some (.string nm) := (blk_cell BX2.out 4).trans rfl
 have y5 : w2.cell? ⟨x0, 5, none⟩ = some (.slice A l.length c) := (blk_cell BX2.out 5).trans rfl
 by_cases k1 : kind = 1
 ·have t1 : (kind == 1) = true := beq_iff_eq.mpr k1
  by_cases hn : 0 ≤ idxN nm xs 0
  ·have tn : decide (0 ≤ idxN nm xs 0) = true := decide_eq_true hn
   have E := Aside0.mk (by unfold mutL; rw [if_pos k1, if_pos hn] : mutL xs kind uid mode flags nm l = (xs, 9))
   clear k1 hn
   go_wp2
   go_ret2
   exact ⟨_, (Z147), by rw [E.out]; simp, HB2.out⟩
  have tn : decide (0 ≤ idxN nm xs 0) = false := decide_eq_false hn
  by_cases h4 : xs.length = 4
  ·have t4 : ((xs.length : Int) == 4) = true := beq_iff_eq.mpr (Z43)
   have E := Aside0.mk (by unfold mutL; rw [if_pos k1, if_neg hn, if_pos h4] : mutL xs kind uid mode flags nm l = (xs, 7))
   clear k1 hn h4
   go_wp2
   go_ret2
   exact ⟨_, (Z147), by rw [E.out]; simp, HB2.out⟩
  have t4 : ((xs.length : Int) == 4) = false := beq_eq_false_iff_ne.mpr (Z43)
  have E := Aside0.mk (by unfold mutL; rw [if_pos k1, if_neg hn, if_neg h4] : mutL xs kind uid mode flags nm l = (xs ++ [⟨nm, (xs.length : Int) + 1, 1, [], []⟩], 0))
  clear k1 hn h4
  have HX2' := HX2.out
  have hL80 : (xs.length + 1) * 80 ≤ 140737488355328 := by omega
  have hwr : IntKind.i64.wrap ((xs.length : Int) + 1) = (xs.length : Int) + 1 := IntWalk.i64_in _ (Z43)
  go_wp2_with fail
  go_region_held3 (fun W => W.cell? ⟨x0, 4, none⟩ = some (.string nm))
   (first | assumption | exact old_cell (below_alloc (Below.refl _ _) _) (Z144) | exact old_cell R2.out y4 | exact old_cell (Z144) (Z144) | go_keep)
   (first
    | (go_at_call 54; refine (spec_l09Own.calls k2 A0 c0 xs xs _ (by (with_reducible repeat (first | apply Kd.C_alloc | apply Kd.C_drewN | apply Kd.C_drew)); exact HX2') hc0 HO.out).mono ?_; rintro e w3 ⟨v0, rfl, hS, hb⟩; obtain ⟨N3, HN3, HS3⟩ : ∃ N3, Aside0 (N3 = _) ∧ Aside0 (Kd.S k59 59 w3 N3 (fun k => N3 ≤ k ∧ k < w3.heap.size) v0 xs) := ⟨_, ⟨rfl⟩, ⟨Kd.S_mono (Kd.S_bound hS) (fun k hk => ⟨hk.2.1, hk.2.2.1⟩)⟩⟩)
    | (refine S_append_at2 k59 (w0 := w2) w2.heap.size (Z102) (.tmp 30) (.tmp 39) 30 59 (.agg #[.string ⟨#[]⟩, .int .i64 0, .int .i64 0, .slice none 0 0, .slice none 0 0]) 80 rfl Try.underlying30 info59 rfl (Z79) (Z79) v0 xs (⟨nm, (xs.length : Int) + 1, 1, [], []⟩ : S59) (fun g1 g2 => [.string nm, .int .i64 ((xs.length : Int) + 1), .int .i64 1, .slice (some ⟨g1, 0, none⟩) 0 0, .slice (some ⟨g2, 0, none⟩) 0 0]) _ _ _ _ (.tmp 36) (.tmp 37) (fun _ => True) (fun k => ¬ (N3 ≤ k ∧ k < w3.heap.size)) rfl rfl rfl rfl ?_ ?_ ?_ (fun _ _ => trivial) ?_ ?_ ?_ hL80 ?_; (focus (exact (Z105))); (focus (exact k59_mkM _ _ _ (⟨nm, (xs.length : Int) + 1, 1, [], []⟩ : S59) (R_empty_at _ (Z105) (Z39) (Z39)) (R_empty_at _ (Z105) (Z39) (Z39)))); (focus (exact fun k hk => ⟨trivial, fun e => hk ((Kd.S_R HS3.out).1 k e.symm)⟩)); (focus ((with_reducible repeat (first | apply Kd.S_alloc | apply Kd.S_drewN | apply Kd.S_drew)); exact Kd.S_lower (Kd.S_mono HS3.out (fun k hk => ⟨trivial, not_not_intro hk⟩)) (Z39))); (focus (exact (by repeat (first | (with_reducible exact Below.refl _ _) | (with_reducible refine below_alloc ?_ _) | (with_reducible refine below_drew1 ?_) | (refine Below.trans ?_ (hb.mono (Z39))))))); (focus (exact (Z39))); intro v1 w4 ho hbb hg hat; obtain ⟨A1, c1, hv⟩ := Kd.S_slice ho; rw [List.length_append, List.length_singleton] at hv; subst hv; have R1 := Aside0.mk ho; have R2 := Aside0.mk hbb; clear ho hbb hg hat))
  all_goals
   (go_wp2
    go_ret2
    exact ⟨_, (Z147), fun _ => by rw [E.out]; exact Kd.S_lower R1.out (Nat.le_of_lt HZ2.out), Below.trans HB2.out (R2.out.mono (Nat.le_of_lt HZ2.out))⟩)
 have t1 : (kind == 1) = false := beq_eq_false_iff_ne.mpr k1
 rcases idxN_lt nm xs 0 with hn | ⟨k, hk, -, hkl⟩
 ·have hn : idxN nm xs 0 < 0 := by simpa using hn
  have tn : decide (idxN nm xs 0 < 0) = true := decide_eq_true hn
  have E := Aside0.mk (by unfold mutL; rw [if_neg k1, if_pos hn] : mutL xs kind uid mode flags nm l = (xs, 5))
  clear k1 hn
  go_wp2
  go_ret2
  exact ⟨_, (Z147), by rw [E.out]; simp, HB2.out⟩
 have hk : idxN nm xs 0 = (k : Int) := by simpa using hk
 have hkl : k < xs.length := by omega
 have hnn : ¬ idxN nm xs 0 < 0 := by omega
 obtain ⟨b, hb⟩ : ∃ b, rd_T59 xs (k : Int) = b := ⟨_, rfl⟩
 have hbm : b ∈ xs := by rw [← hb, rdBox xs k hkl]; exact List.getElem_mem hkl
 have hbz := Aside0.mk (HM.out b hbm)
 have E0 := Aside0.mk (by unfold mutL; rw [if_neg k1, if_neg hnn, hk, hb, Int.toNat_natCast] : mutL xs kind uid mode flags nm l = if kind = 2 then (xs.set k (addL b l).1, (addL b l).2)
  else if kind = 3 then (xs.set k (flagsL b uid mode flags).1, (flagsL b uid mode flags).2) else (xs.set k ⟨b.f0, b.f1, b.f2, b.f3.filter (fun x => !delB x), b.f4⟩, 0))
 rw [hk]
 have tn : decide ((k : Int) < 0) = false := decide_eq_false (Z43)
 have h0 : (0 : Int) ≤ (k : Int) := by omega
 have h1 : (k : Int) < (xs.length : Int) := by omega
 have HX2' := HX2.out
 go_wp2_with fail
 refine (spec_l09Own.calls k2 A0 c0 xs xs _ (by (with_reducible repeat (first | apply Kd.C_alloc | apply Kd.C_drewN | apply Kd.C_drew)); exact HX2') hc0 HO.out).mono ?_
 rintro e w3 ⟨v0, rfl, hS, hb3⟩
 have hN : w2.heap.size ≤ w3.heap.size := hb3.size
 have HS3 := Aside0.mk (show Kd.S k59 59 w3 w2.heap.size (fun k => w2.heap.size ≤ k) v0 xs from Kd.S_mono (Kd.S_bound hS) (fun k hk => hk.2.1))
 obtain ⟨g, cap, rfl, -, hgl, -⟩ := Kd.S_form HS3.out (Z43)
 obtain ⟨vM, vK, hL⟩ := Lent.of_S HS3.out (i := k) hkl (fun q hq => Nat.le_trans hN hq)
 rw [hb] at hL
 have HL := Aside0.mk hL
 have hokg : w2.heap.size ≤ g := (Kd.S_R HS3.out).1 g (by simp [Value.ownBlock])
 have HB3 := Aside0.mk (Below.trans HB2.out (hb3.mono (Nat.le_of_lt HZ2.out)))
 have HIT3 := Aside0.mk (Kd.C_below HIT2.out hb3)
 have BX3 := Aside0.mk (blk_below BX2.out hb3)
 have HN := Aside0.mk hN
 obtain ⟨ok, hok⟩ : ∃ ok : Nat → Prop, ok = fun q => w2.heap.size ≤ q := ⟨_, rfl⟩
 have hokn : ∀ q, w2.heap.size ≤ q → ok q := fun q h => by rw [hok]; exact h
 have hnok : ∀ q, ok q → w2.heap.size ≤ q := fun q h => by rw [hok] at h; exact h
 have HWW := Aside0.mk (fun (wr : World) (hq : KeptA w3 wr ok) => (Below.trans hb3 (hq.is_below hN hnok) : Below w2.heap.size w2 wr))
 have HWB := Aside0.mk (fun (wr : World) (hq : KeptA w3 wr ok) => Below.trans HB2.out ((HWW.out wr hq).mono (Nat.le_of_lt HZ2.out)))
 have HWC := Aside0.mk (fun (wr : World) (hq : KeptA w3 wr ok) => Kd.C_below HIT2.out (HWW.out wr hq))
 have HWX := Aside0.mk (fun (wr : World) (hq : KeptA w3 wr ok) => blk_below BX2.out (HWW.out wr hq))
 have HLW : Lent w2.heap.size ok w3 g xs.length cap xs k b vM vK := by rw [hok]; exact hL
 have HLK := Aside0.mk HLW
 have hokg' : ok g := hokn g hokg
 have HNK := Aside0.mk hokn
 clear hok HLW hokn hnok
 clear hS hL hb hk hbm hnn HX2 HB2 HIT2 BX2 HX2' hN k1 t1
 clear y0 y1 y2 y3 y4 y5
 have y0 : w3.cell? ⟨x0, 0, none⟩ = some (.int .i64 kind) := (blk_cell BX3.out 0).trans rfl
 have y1 : w3.cell? ⟨x0, 1, none⟩ = some (.int .i64 uid) := (blk_cell BX3.out 1).trans rfl
 have y2 : w3.cell? ⟨x0, 2, none⟩ = some (.int .i64 mode) := (blk_cell BX3.out 2).trans rfl
 have y3 : w3.cell? ⟨x0, 3, none⟩ = some (.int .i64 flags) := (blk_cell BX3.out 3).trans rfl
 have y5 : w3.cell? ⟨x0, 5, none⟩ = some (.slice A l.length c) := (blk_cell BX3.out 5).trans rfl
 by_cases k2 : kind = 2
 ·have t2 : (kind == 2) = true := beq_iff_eq.mpr k2
  have E := Aside0.mk (by rw [E0.out, if_pos k2] : mutL xs kind uid mode flags nm l = (xs.set k (addL b l).1, (addL b l).2))
  clear E0 k2 hb3
  have hgf := HLK.out.lt
  go_wp2
  go_loopg [9, 94, 107, 115] l.length (fun gg s9 s94 s107 s115 wr => ∃ (kk : Nat) (b' : S59) (vM' vK' : Value), kk ≤ l.length ∧ l.length - kk ≤ gg ∧ s9 = .int .i64 kk ∧ Aside0 (Lent w2.heap.size ok wr g xs.length cap xs k b' vM' vK') ∧ Aside0 (addL b l = addL b' (l.drop kk)) ∧ Aside0 (KeptA w3 wr ok) ∧ Aside0 (b'.f3.length ≤ 1048576 + kk ∧ b'.f4.length ≤ 1048576 + kk))
  case atStart => exact ⟨0, b, vM, vK, Nat.zero_le _, Z43, rfl, HLK, ⟨rfl⟩, ⟨KeptA.refl _ _⟩, ⟨by have := hbz.out; omega, by have := hbz.out; omega⟩⟩
  case round =>
   obtain ⟨kk, b', vM', vK', hkk, hgg, rfl, HB, HA, HK, HZ⟩ := hrel
   have y5 : wr.cell? ⟨x0, 5, none⟩ = some (.slice A l.length c) := (blk_cell (HWX.out wr HK.out) 5).trans rfl
   by_cases hlt : kk < l.length
   ·have hltz : (kk : Int) < (l.length : Int) := by omega
    have h0k : 0 ≤ (kk : Int) := by omega
    obtain ⟨ad, e, hx0, hx1⟩ := at_T86 (HWC.out wr HK.out) kk h0k hltz
    cases e
    simp only [Int.toNat_natCast] at hx0 hx1
    have HIC := Aside0.mk (fun (wc : World) (hq : KeptA w3 wc ok) => item_cells (HWC.out wc hq) kk hlt)
    have hstep := Aside0.mk (addL_drop b' l kk hlt)
    have hgl' := HB.out.lt
    obtain ⟨A4, c4, rfl, hc4, hC4⟩ := HB.out.keys
    obtain ⟨A3, c3, rfl, hc3, hC3⟩ := HB.out.mails
    obtain ⟨k9, hk9⟩ := (hasS_ev b'.f4 (rd_T86 l (kk : Int)).f0 (by have := HZ.out; omega)).rounds
    have HQ := Aside0.mk hk9
    have HC1 := Aside0.mk hC4
    clear hC4 hC3 hk9
    generalize (rd_T86 l (kk : Int)).f0 = q0 at *
    generalize (rd_T86 l (kk : Int)).f1 = q1 at *
    obtain ⟨z0, z1, z2, z3, z4⟩ := HB.out.cells
    go_upto_region 24 with (fail)
    cases hh : hasB b'.f4 q0 with
    | true =>
     rw [hh] at HQ
     go_quiet (first | (go_at_call 50; refine (spec_l06Has.calls k9 A4 c4 b'.f4 q0 true _ (Kd.C_drewN HC1.out _) hc4 HQ.out).mono ?_; rintro e w' ⟨rfl, ⟨nd, rfl⟩⟩; exact ⟨rfl, _, World.drewN_drewN _ _ _⟩))
     go_wp2
     go_ret2
     have e1 : mutL xs kind uid mode flags nm l = (xs.set k b', 9) := by rw [E.out, HA.out, hstep.out, hh]; rfl
     exact ⟨_, (by rw [e1]; rfl), by rw [e1]; simp, HWB.out _ (HK.out.drewN _)⟩
    | false =>
     rw [hh] at HQ
     have hs1 := Aside0.mk (HA.out.trans hstep.out)
     rw [hh] at hs1
     clear hstep
     go_quiet (first | (go_at_call 50; refine (spec_l06Has.calls k9 A4 c4 b'.f4 q0 false _ (Kd.C_drewN HC1.out _) hc4 HQ.out).mono ?_; rintro e w' ⟨rfl, ⟨nd, rfl⟩⟩; exact ⟨rfl, _, World.drewN_drewN _ _ _⟩))
     by_cases h60 : b'.f4.length = 60
     ·have t60 : ((b'.f4.length : Int) == 60) = true := beq_iff_eq.mpr (Z43)
      have HX := Aside0.mk h60
      clear h60
      go_wp2
      go_ret2
      have e1 : mutL xs kind uid mode flags nm l = (xs.set k b', 17) := by rw [E.out, hs1.out, if_neg (Z124), if_pos HX.out]
      exact ⟨_, (by rw [e1]; rfl), by rw [e1]; simp, HWB.out _ (HK.out.drewN _)⟩
     have t60 : ((b'.f4.length : Int) == 60) = false := beq_eq_false_iff_ne.mpr (Z43)
     have HX := Aside0.mk h60
     clear h60
     by_cases h30 : b'.f3.length = 30
     ·have t30 : ((b'.f3.length : Int) == 30) = true := beq_iff_eq.mpr (Z43)
      have HY := Aside0.mk h30
      clear h30
      go_wp2
      go_ret2
      have e1 : mutL xs kind uid mode flags nm l = (xs.set k b', 7) := by rw [E.out, hs1.out, if_neg (Z124), if_neg HX.out, if_pos HY.out]
      exact ⟨_, (by rw [e1]; rfl), by rw [e1]; simp, HWB.out _ (HK.out.drewN _)⟩
     have t30 : ((b'.f3.length : Int) == 30) = false := beq_eq_false_iff_ne.mpr (Z43)
     have e1 := Aside0.mk (by rw [hs1.out, if_neg (Z124), if_neg HX.out, if_neg h30] : addL b l = addL ⟨b'.f0, b'.f1, wrap64 (b'.f2 + 1), b'.f3 ++ [⟨b'.f2, 0, q1⟩], b'.f4 ++ [q0]⟩ (l.drop (kk + 1)))
     clear h30 HX hs1 HA HQ
     go_upto_region 30 with (fail)
     go_cut [142] (fun v142 wc => ∃ (vM1 : Value), Aside0 (Lent w2.heap.size ok wc g xs.length cap xs k ⟨b'.f0, b'.f1, b'.f2, b'.f3 ++ [⟨b'.f2, 0, q1⟩], b'.f4⟩ vM1 (.slice A4 b'.f4.length c4)) ∧ Aside0 (KeptA w3 wc ok))
     case first =>
      obtain ⟨hin, oki, p1, p2, pH, p3, p4⟩ := HB.out
      have HP := Aside0.mk (And.intro p1 (And.intro p2 (And.intro pH (And.intro p3 p4))))
      have HZ2' := HZ.out
      clear p1 p2 pH p3 p4
      have hgl1 := HB.out.lt
      have hfz3 := HB.out.frozen (k * 5 + 3)
      have hNN := HN.out
      go_region_law (refine Kd.R_append_step k71 w2.heap.size (Z102) (.tmp 127) (.tmp 139) 57 71 (.agg #[.int .i64 0, .int .i64 0, .string ⟨#[]⟩]) 32 rfl Try.underlying57 info71 rfl (Z79) (Z43) (.slice A3 b'.f3.length c3) b'.f3 (⟨b'.f2, 0, q1⟩ : S71) [.int .i64 b'.f2, .int .i64 0, .string q1] oki (fun _ => False) rfl rfl (k71_mkM _ _ _ _) (fun _ hk => hk.elim) (fun k hk => HP.out.1 k (by simpa using hk)) (by (with_reducible repeat (first | apply Kd.R_alloc | apply Kd.R_drewN | apply Kd.R_drew)); exact HP.out.2.2.2.1) (Below.refl _ _) (by have := HK.out.1; simp; omega) (Z43) ?_; intro v1 w1 ho hb hg hat; obtain ⟨A1, c1, hv⟩ := Kd.R_slice ho; rw [List.length_append, List.length_singleton] at hv; subst hv; have hne : some g ≠ (Value.slice A3 b'.f3.length c3).ownBlock := (by intro e; exact HP.out.2.1 (HP.out.2.2.2.1.1 g e.symm)); have q3 := grown_cell hg (g := g) (by simpa using hgl1) hne (k * 5 + 3); have q4 := q3.1.trans z3; have q5 := q3.2.trans hfz3; have R1 := Aside0.mk (lent_mails (b := b') hin (fun k hk => HP.out.1 k (by simpa using hk)) HP.out.2.1 (Kd.H_below HP.out.2.2.1 (Z64)) (Kd.R_below HP.out.2.2.2.1 (Z64)) (Kd.R_below HP.out.2.2.2.2 (Z64)) hg ho); have R2 := Aside0.mk (KeptA.setCell (p := ⟨g, k * 5 + 3, none⟩) (KeptA.of_grown hg (by (with_reducible repeat (first | apply KeptA.drewN | apply KeptA.drew)); exact HK.out) (fun k e => .inl (HP.out.2.2.1.1 k (HP.out.2.2.2.1.1 k e)))) (.inl hokg') (.slice A1 (b'.f3.length + 1) c1)); clear hb hat ho q3)
      all_goals (go_wp2; go_meet; exact ⟨_, R1, R2⟩)
     case rest =>
      obtain ⟨vM1, HB2, HK2⟩ := hcut
      clear z0 z1 z2 z3 z4 y5 hx0 hx1
      have y5 : wc.cell? ⟨x0, 5, none⟩ = some (.slice (some ad) l.length c) := (blk_cell (HWX.out wc HK2.out) 5).trans rfl
      obtain ⟨hx0, -⟩ := HIC.out wc HK2.out
      clear HB HK HC1
      obtain ⟨z0, z1, z2, z3, z4⟩ := HB2.out.cells
      obtain ⟨A3', c3', rfl, hc3', -⟩ := HB2.out.mails
      go_upto_region 31 with (fail)
      go_cut [157] (fun v157 we => ∃ (vK1 : Value), Aside0 (Lent w2.heap.size ok we g xs.length cap xs k ⟨b'.f0, b'.f1, b'.f2, b'.f3 ++ [⟨b'.f2, 0, q1⟩], b'.f4 ++ [q0]⟩ (.slice A3' (b'.f3 ++ [(⟨b'.f2, 0, q1⟩ : S71)]).length c3') vK1) ∧ Aside0 (KeptA w3 we ok))
      case first =>
       obtain ⟨hin, oki, p1, p2, pH, p3, p4⟩ := HB2.out
       have HP := Aside0.mk (And.intro p1 (And.intro p2 (And.intro pH (And.intro p3 p4))))
       have HZ2' := HZ.out
       clear p1 p2 pH p3 p4
       have hgl1 := HB2.out.lt
       have hfz3 := HB2.out.frozen (k * 5 + 4)
       have hNN := HN.out
       go_region_law (refine Kd.R_append_step Kd.string (w0 := wc.drew) (W := wc.drew) w2.heap.size (Z102) (.tmp 147) (.tmp 154) 40 9 (.string ⟨#[]⟩) 16 rfl Try.underlying40 info9 rfl (Z79) (Z43) (.slice A4 b'.f4.length c4) b'.f4 q0 [.string q0] oki (fun _ => False) rfl rfl rfl (fun _ hk => hk.elim) (fun k hk => HP.out.1 k (by simpa using hk)) (by (with_reducible repeat (first | apply Kd.R_alloc | apply Kd.R_drewN | apply Kd.R_drew)); exact HP.out.2.2.2.2) (Below.refl _ _) (by have := HK2.out.1; simp; omega) (Z43) ?_; intro v1 w1 ho hb hg hat; obtain ⟨A1, c1, hv⟩ := Kd.R_slice ho; rw [List.length_append, List.length_singleton] at hv; subst hv; have hne : some g ≠ (Value.slice A4 b'.f4.length c4).ownBlock := (by intro e; exact HP.out.2.1 (HP.out.2.2.2.2.1 g e.symm)); have q3 := grown_cell hg (g := g) (by simpa using hgl1) hne (k * 5 + 4); have q4 := q3.1.trans z4; have q5 := q3.2.trans hfz3; have R1 := Aside0.mk (lent_keys (b := ⟨b'.f0, b'.f1, b'.f2, b'.f3 ++ [⟨b'.f2, 0, q1⟩], b'.f4⟩) hin (fun k hk => HP.out.1 k (by simpa using hk)) HP.out.2.1 (Kd.H_below HP.out.2.2.1 (Z64)) (Kd.R_below HP.out.2.2.2.1 (Z64)) (Kd.R_below HP.out.2.2.2.2 (Z64)) hg ho); have R2 := Aside0.mk (KeptA.setCell (p := ⟨g, k * 5 + 4, none⟩) (KeptA.of_grown hg (by (with_reducible repeat (first | apply KeptA.drewN | apply KeptA.drew)); exact HK2.out) (fun k e => .inl (HP.out.2.2.1.1 k (HP.out.2.2.2.2.1 k e)))) (.inl hokg') (.slice A1 (b'.f4.length + 1) c1)); clear hb hat ho q3)
       all_goals (go_wp2; go_meet; exact ⟨_, R1, R2⟩)
      case rest =>
       obtain ⟨vK1, HB3, HK3⟩ := hcut
       clear z0 z1 z2 z3 z4 y5 hx0 HB2 HK2
       obtain ⟨z0, z1, z2, z3, z4⟩ := HB3.out.cells
       have hf2 := HB3.out.frozen (k * 5 + 2)
       have HB4 := Aside0.mk (HB3.out.setNext (wrap64 (b'.f2 + 1)))
       have HK4 := Aside0.mk (KeptA.setCell (p := ⟨g, k * 5 + 2, none⟩) HK3.out (.inl hokg') (.int .i64 (wrap64 (b'.f2 + 1))))
       have HZ2' := HZ.out
       go_wp2
       go_roundg (l.length - (kk + 1))
       case measure => omega
       case rel => exact ⟨kk + 1, _, _, _, Z43, Z43, by go_num, HB4, ⟨e1.out⟩, HK4, ⟨by simp; omega, by simp; omega⟩⟩
   ·have hltz : ¬ (kk : Int) < (l.length : Int) := by omega
    obtain rfl : kk = l.length := by omega
    go_wp2
    go_ret2
    have e := HA.out
    rw [List.drop_of_length_le (Nat.le_refl _)] at e
    have e1 : mutL xs kind uid mode flags nm l = (xs.set k b', 0) := by rw [E.out, e]; rfl
    exact ⟨_, (by rw [e1]; rfl), fun _ => by rw [e1]; exact Kd.S_lower (Kd.S_mono HB.out.back (fun _ _ => trivial)) (Nat.le_of_lt HZ2.out), HWB.out _ HK.out⟩
 have t2 : (kind == 2) = false := beq_eq_false_iff_ne.mpr k2
 by_cases k3 : kind = 3
 ·have t3 : (kind == 3) = true := beq_iff_eq.mpr k3
  have E := Aside0.mk (by rw [E0.out, if_neg k2, if_pos k3] : mutL xs kind uid mode flags nm l = (xs.set k (flagsL b uid mode flags).1, (flagsL b uid mode flags).2))
  clear E0 k2 k3
  obtain ⟨z0, z1, z2, z3, z4⟩ := HL.out.cells
  obtain ⟨A3, c3, rfl, hc3, hC3⟩ := HL.out.mails
  obtain ⟨A4, c4, rfl, hc4, hC4⟩ := HL.out.keys
  obtain ⟨k5, hk5⟩ := (mailS_ev b.f0 b.f1 b.f2 b.f3 b.f4 (by have := hbz.out; omega) uid).rounds
  have HM5 := Aside0.mk hk5
  clear hk5
  have HC3 := Aside0.mk hC3
  have HC4 := Aside0.mk hC4
  clear hC3 hC4 hb3
  go_wp2_with fail
  go_region_held3 (fun W => W.cell? ⟨g, k * 5, none⟩ = some (.string b.f0) ∧ W.cell? ⟨g, k * 5 + 1, none⟩ = some (.int .i64 b.f1) ∧ W.cell? ⟨g, k * 5 + 2, none⟩ = some (.int .i64 b.f2) ∧ W.cell? ⟨g, k * 5 + 3, none⟩ = some (.slice A3 b.f3.length c3) ∧ W.cell? ⟨g, k * 5 + 4, none⟩ = some (.slice A4 b.f4.length c4) ∧ W.cell? ⟨x0, 1, none⟩ = some (.int .i64 uid))
   (first | assumption | exact ⟨old_cell hb4 z0, old_cell hb4 z1, old_cell hb4 z2, old_cell hb4 z3, old_cell hb4 z4, old_cell hb4 y1⟩ | go_keep)
   (first | (go_at_call 55; refine (spec_l09Mail.calls k5 b.f0 b.f1 b.f2 A3 c3 b.f3 A4 c4 b.f4 uid (idxU uid b.f3 0) _ (by (with_reducible repeat (first | apply Kd.C_alloc | apply Kd.C_drewN | apply Kd.C_drew)); exact HC3.out) hc3 (by (with_reducible repeat (first | apply Kd.C_alloc | apply Kd.C_drewN | apply Kd.C_drew)); exact HC4.out) hc4 HM5.out).mono ?_; rintro e w4 ⟨rfl, hb4⟩))
  have HB4 := Aside0.mk (Below.trans (Below.drew HB3.out) (hb4.mono (Nat.le_trans (Nat.le_of_lt HZ2.out) HN.out)))
  have HL4 := Aside0.mk (Lent.below (HL.out.below (Below.drew (Below.refl _ _))) hb4)
  have y2 := old_cell hb4 y2
  have y3 := old_cell hb4 y3
  clear hb4 z0 z1 z2 z3 z4
  rcases idxU_lt uid b.f3 0 with hn | ⟨j, hj, -, hjl⟩
  ·have hn : idxU uid b.f3 0 < 0 := by simpa using hn
   have tj : decide (idxU uid b.f3 0 < 0) = true := decide_eq_true hn
   have E2 := Aside0.mk (by rw [E.out]; unfold flagsL; rw [if_pos hn] : mutL xs kind uid mode flags nm l = (xs.set k b, 17))
   clear hn
   go_wp2
   go_ret2
   exact ⟨_, (by rw [E2.out]; rfl), by rw [E2.out]; simp, HB4.out⟩
  have hj : idxU uid b.f3 0 = (j : Int) := by simpa using hj
  have hjl : j < b.f3.length := by omega
  rw [hj]
  have tj : decide ((j : Int) < 0) = false := decide_eq_false (Z43)
  obtain ⟨gm, c3', e3, hgm, hgne, hokgm⟩ := HL4.out.form (Z43)
  injection e3 with e3a e3b e3c
  subst e3a; subst e3c
  obtain ⟨z0, z1, z2, z3, z4⟩ := HL4.out.cells
  obtain ⟨r0, r1, r2, hfr⟩ := HL4.out.mail j hjl
  have f1 : w4.frozen? ⟨gm, j * 3 + 1, none⟩ = false := hfr 1
  have hj0 : (0 : Int) ≤ (j : Int) := by omega
  have hj1 : (j : Int) < (b.f3.length : Int) := by omega
  go_wp2_with fail
  have e1 : flagsL b uid mode flags = (⟨b.f0, b.f1, b.f2, b.f3.set j ⟨b.f3[j].f0, newFlags mode b.f3[j].f1 flags, b.f3[j].f2⟩, b.f4⟩, 0) := by
   unfold flagsL
   rw [hj, if_neg (Z43)]
   have : rd_T71 b.f3 (j : Int) = b.f3[j] := by unfold rd_T71; simp [List.getD, List.getElem?_eq_getElem hjl]
   rw [this, Int.toNat_natCast]
  have E1 := Aside0.mk (E.out.trans (by rw [e1]))
  have HD := Aside0.mk ((lent_flag HL4.out j hjl (newFlags mode b.f3[j].f1 flags)).below (below_drew1 (Below.refl _ _)))
  have HBD := Aside0.mk (fun (hz : w.heap.size ≤ gm) => (Below.drew (below_set (j := j * 3 + 1) (v := .int .i64 (newFlags mode b.f3[j].f1 flags)) HB4.out hz)))
  have HGM := Aside0.mk (show w2.heap.size ≤ gm from hokgm)
  have HZ5 := HZ2.out
  refine wp_region_still_tail 20 (Z24) (Z24) ?_
  simp only [List.take_succ_cons, List.take_zero, List.drop_succ_cons, List.drop_zero]
  repeat still_step
  still_call (s_flags _ _ _ _)
  repeat still_step
  refine wpStill_nil ?_
  go_wp2
  go_ret2
  exact ⟨_, (by rw [E1.out]; rfl), fun _ => by rw [E1.out]; exact Kd.S_lower (Kd.S_mono HD.out.back (fun _ _ => trivial)) (Nat.le_of_lt HZ5), HBD.out (by have := HGM.out; omega)⟩
 have t3 : (kind == 3) = false := beq_eq_false_iff_ne.mpr k3
 have E := Aside0.mk (by rw [E0.out, if_neg k2, if_neg k3] : mutL xs kind uid mode flags nm l = (xs.set k ⟨b.f0, b.f1, b.f2, b.f3.filter (fun x => !delB x), b.f4⟩, 0))
 clear E0 k2 k3
 obtain ⟨z0, z1, z2, z3, z4⟩ := HLK.out.cells
 obtain ⟨A3, c3, rfl, hc3, hC3⟩ := HLK.out.mails
 have HC3 := Aside0.mk hC3
 have hb30 := hbz.out.1
 clear hC3 z0 z1 z2 z4 hb3
 have y0' : True := trivial
 go_wp2_with fail
 go_loopg [11, 12] b.f3.length (fun gg s11 s12 wr => ∃ (kk : Nat), kk ≤ b.f3.length ∧ b.f3.length - kk ≤ gg ∧ s12 = .int .i64 kk ∧ Aside0 (Kd.R k71 71 wr w3.heap.size (fun q => w3.heap.size ≤ q) s11 ((b.f3.take kk).filter (fun x => !delB x))) ∧ Aside0 (Below w3.heap.size w3 wr))
 case atStart => exact ⟨0, Nat.zero_le _, Z43, rfl, ⟨R_empty_at _ (blk_made rfl) (Nat.le_refl _) (Nat.le_refl _)⟩, ⟨below_alloc (Below.refl _ _) _⟩⟩
 case round =>
  obtain ⟨kk, hkk, hgg, rfl, HR, HBW⟩ := hrel
  have z3w := old_cell HBW.out z3
  by_cases hlt : kk < b.f3.length
  ·have hltz : (kk : Int) < (b.f3.length : Int) := by omega
   have h0k : 0 ≤ (kk : Int) := by omega
   obtain ⟨ad, e, hx0, hx1, hx2⟩ := at_T71 (Kd.C_below HC3.out HBW.out) kk h0k hltz
   cases e
   simp only [Int.toNat_natCast] at hx0 hx1 hx2
   have hst := Aside0.mk (take_filter_step b.f3 kk hlt)
   have hel : rd_T71 b.f3 (kk : Int) = b.f3[kk] := by unfold rd_T71; simp [List.getD, List.getElem?_eq_getElem hlt]
   rw [hel] at hx0 hx1 hx2
   have hfl := Aside0.mk (show ((b.f3.take kk).filter (fun x => !delB x)).length ≤ 1048576 from by have := List.length_filter_le (fun x => !delB x) (b.f3.take kk); rw [List.length_take] at this; omega)
   obtain ⟨x, hxd⟩ : ∃ x, b.f3[kk] = x := ⟨_, rfl⟩
   rw [hxd] at hx0 hx1 hx2 hst
   cases hd : delB x with
   | true =>
    have td : (Go.bits .and .i64 x.f1 8 == 0) = false := by unfold delB at hd; simpa [bne] using hd
    have HR2 := Aside0.mk (by rw [hst.out, if_pos hd]; exact HR.out : Kd.R k71 71 wr w3.heap.size (fun q => w3.heap.size ≤ q) u11 ((b.f3.take (kk + 1)).filter (fun x => !delB x)))
    clear hst hd hxd hel
    go_wp2
    go_roundg (b.f3.length - (kk + 1))
    case measure => omega
    case rel => exact ⟨kk + 1, Z43, Z43, by go_num, HR2, HBW⟩
   | false =>
    have td : (Go.bits .and .i64 x.f1 8 == 0) = true := by unfold delB at hd; simpa [bne] using hd
    have HE := Aside0.mk (by rw [hst.out, if_neg (by rw [hd]; simp)] : (b.f3.take (kk + 1)).filter (fun x => !delB x) = (b.f3.take kk).filter (fun x => !delB x) ++ [x])
    clear hst hd hxd hel
    go_wp2_with (first | ((with_reducible refine gate_builtin (b := .append) (xs := #[.tmp 71, .tmp 79]) rfl ?_); at_builtin; refine Kd.R_append k71 (w0 := w3) w3.heap.size rfl (.tmp 71) (.tmp 79) 57 71 (.agg #[.int .i64 0, .int .i64 0, .string ⟨#[]⟩]) 32 rfl Try.underlying57 info71 rfl (Z79) (Z43) u11 ((b.f3.take kk).filter (fun x => !delB x)) x [.int .i64 x.f0, .int .i64 x.f1, .string x.f2] (fun q => w3.heap.size ≤ q) (fun _ => False) rfl rfl (k71_mkM _ _ _ _) (fun _ hk => hk.elim) (fun q hq => Nat.le_trans HBW.out.size hq) HR.out HBW.out HBW.out.size (by have := hfl.out; omega) ?_; intro v1 w4 ho hb hg hat))
    go_roundg (b.f3.length - (kk + 1))
    case measure => omega
    case rel => exact ⟨kk + 1, Z43, Z43, by go_num, ⟨by rw [HE.out]; exact ho⟩, ⟨hb⟩⟩
  ·have hltz : ¬ (kk : Int) < (b.f3.length : Int) := by omega
   obtain rfl : kk = b.f3.length := by omega
   have e0 : b.f3.take b.f3.length = b.f3 := List.take_length
   have HR2 := Aside0.mk HR.out
   rw [e0] at HR2
   clear e0 HR
   obtain ⟨hin, oki, p1, p2, pH, p3, p4⟩ := HLK.out
   have HP := Aside0.mk (And.intro p1 (And.intro p2 (And.intro pH (And.intro p3 p4))))
   clear p1 p2 pH p3 p4
   have hgl2 := HLK.out.lt
   have hf3 : wr.frozen? ⟨g, k * 5 + 3, none⟩ = false := by rw [← HLK.out.frozen (k * 5 + 3)]; unfold World.frozen?; rw [HBW.out.block g hgl2]
   have HK3 := Aside0.mk (KeptA.of_below HBW.out (fun q => (Value.slice A3 b.f3.length c3).ownBlock = some q))
   have HL3 := Aside0.mk (lent_fewer hin HP.out.1 HP.out.2.1 HP.out.2.2.1 HP.out.2.2.2.1 HP.out.2.2.2.2 HK3.out (Kd.R_lower (Kd.R_mono HR2.out (fun q hq => HP.out.1 q hq)) HN.out))
   have HKF := Aside0.mk (KeptA.setCell (p := ⟨g, k * 5 + 3, none⟩) (KeptA.of_below HBW.out ok) (.inl hokg') u11)
   obtain ⟨A1, c1, hv1⟩ := Kd.R_slice HR2.out
   subst hv1
   go_wp2
   go_ret2
   exact ⟨_, (Z147), fun _ => by rw [E.out]; exact Kd.S_lower (Kd.S_mono HL3.out.back (fun _ _ => trivial)) (Nat.le_of_lt HZ2.out), HWB.out _ HKF.out⟩

end Go.Proofs.Ytbikfhccfenkdaa.PFnExactEngineOK
