import Derived.Test.YtifkmkiljpeaaadGreatProg
import Derived.Below
import Derived.Deep.Draws
import Derived.Deep.AppendLies
import Derived.Maps.AppendAt
import Derived.OwnWalk
import Derived.Laws.BytesArg
import Derived.Laws.MakeOwn
import Derived.Laws.OwnMore
import Derived.Deep.OwnRows
import Derived.Tactics
import Derived.Lib.ConvBytes
import Derived.Laws.Slices
import Derived.WalkKit
import Derived.KernelRfl
import Derived.RowKit3
import Derived.Deep.LoopGhost
import Derived.Deep.QuietTactic
import Derived.BigQuiet
import Derived.WideLaws
import Derived.Deep.DeepCutAuto
import Derived.Deep.CutBlock
import Derived.Deep.RegionHeld3
import Derived.Laws.Rows
import Derived.Lib.AppendStr
import Derived.ArgAppend
import Derived.Laws.IdiomCopy
import Derived.OrdersHeld
import Derived.Laws.BitsLemmas
import Derived.RowKit
import Derived.Test.YtifkmkiljpeaaadGreatOwnA
import Derived.Test.YtifkmkiljpeaaadGreatOwnB
import Derived.Test.YtifkmkiljpeaaadGreatWAll
set_option linter.unusedVariables false
namespace Go.Proofs.YtifkmkiljpeaaadGreat.PFnExactCommit
open Go.RowKit Go.Proofs.YtifkmkiljpeaaadGreatW.PrintWords Go.Proofs.YtifkmkiljpeaaadGreatW.PrintLast Go.Proofs.YtifkmkiljpeaaadGreatW.PrintMore
variable {P : Prop}
theorem Z0 (h : P := by repeat (first | (with_reducible first | exact HB.out | apply ab | apply af | apply ac) | exact HB.out)) : P := h
theorem Z1 (h : P := by first | rfl | (simp only [nil_beq, nil_bne]; rfl) | (simp [nil_beq, nil_bne]; done) | (simp [errW_none, errW_some] <;> rfl) | (simp [*, errW_none, errW_some] <;> rfl)) : P := h
theorem Z2 (h : P := by (try simp only [List.map_toArray, List.map_cons, List.map_nil]); first | done | rfl | (simp only [List.length_drop, List.length_take]; rfl)) : P := h
theorem Z3 (h : P := by first | rfl | (simp; done) | (simp [nil_beq, nil_bne]; done) | (simp [*]; done) | (simp [*, nil_beq, nil_bne]; done)) : P := h
theorem Z4 (h : P := by first | (with_reducible assumption) | assumption) : P := h
theorem Z5 (h : P := by (with_reducible repeat (first | refine aj ?_ _ | refine ag ?_ | refine ah ?_ _)); refine ch (cs := #[.string ((ax l0 x5_1).f0), .int .i64 ((ax l0 x5_1).f1), .int .i64 ((ax l0 x5_1).f2), .slice A222_3 ((ax l0 x5_1).f3).length c222_3, .slice none 0 0]) ?_ 4 _ rfl; (with_reducible repeat (first | refine aj ?_ _ | refine ag ?_ | refine ah ?_ _)); refine ch (cs := #[.string ((ax l0 x5_1).f0), .int .i64 ((ax l0 x5_1).f1), .int .i64 ((ax l0 x5_1).f2), .slice none 0 0, .slice none 0 0]) ?_ 3 _ rfl; (with_reducible repeat (first | refine aj ?_ _ | refine ag ?_ | refine ah ?_ _)); refine ch (cs := #[.string ((ax l0 x5_1).f0), .int .i64 ((ax l0 x5_1).f1), .int .i64 0, .slice none 0 0, .slice none 0 0]) ?_ 2 _ rfl; (with_reducible repeat (first | refine aj ?_ _ | refine ag ?_ | refine ah ?_ _)); refine ch (cs := #[.string ((ax l0 x5_1).f0), .int .i64 0, .int .i64 0, .slice none 0 0, .slice none 0 0]) ?_ 1 _ rfl; (with_reducible repeat (first | refine aj ?_ _ | refine ag ?_ | refine ah ?_ _)); refine ch (cs := #[.string (⟨#[]⟩ : ByteArray), .int .i64 0, .int .i64 0, .slice none 0 0, .slice none 0 0]) ?_ 0 _ rfl; (with_reducible repeat (first | refine aj ?_ _ | refine ag ?_ | refine ah ?_ _)); exact BK223.out) : P := h
theorem Z6 (h : P := by (repeat (first | exact Below.refl _ _ | (refine Below.alloc ?_ (by first | omega | (simp only [World.size_alloc, World.size_setCell, World.size_drew, fa]; omega)) _) | (refine Below.setCell ?_ (by first | omega | (simp only [World.size_alloc, World.size_setCell, World.size_drew, fa]; omega)) _) | refine Below.drew ?_ | refine below_drewN ?_ _ | (refine Below.trans ?_ (Below.mono (by assumption) (by first | omega | (simp only [World.size_alloc, World.size_setCell, World.size_drew, fa]; omega))))))) : P := h
theorem Z7 (h : P := by (with_reducible repeat (first | refine aj ?_ _ | refine ag ?_ | refine ah ?_ _)); refine ch (cs := #[.string ((ax l1 x5_1).f0), .int .i64 ((ax l1 x5_1).f1), .int .i64 ((ax l1 x5_1).f2), .slice A224_3 ((ax l1 x5_1).f3).length c224_3, .slice none 0 0]) ?_ 4 _ rfl; (with_reducible repeat (first | refine aj ?_ _ | refine ag ?_ | refine ah ?_ _)); refine ch (cs := #[.string ((ax l1 x5_1).f0), .int .i64 ((ax l1 x5_1).f1), .int .i64 ((ax l1 x5_1).f2), .slice none 0 0, .slice none 0 0]) ?_ 3 _ rfl; (with_reducible repeat (first | refine aj ?_ _ | refine ag ?_ | refine ah ?_ _)); refine ch (cs := #[.string ((ax l1 x5_1).f0), .int .i64 ((ax l1 x5_1).f1), .int .i64 0, .slice none 0 0, .slice none 0 0]) ?_ 2 _ rfl; (with_reducible repeat (first | refine aj ?_ _ | refine ag ?_ | refine ah ?_ _)); refine ch (cs := #[.string ((ax l1 x5_1).f0), .int .i64 0, .int .i64 0, .slice none 0 0, .slice none 0 0]) ?_ 1 _ rfl; (with_reducible repeat (first | refine aj ?_ _ | refine ag ?_ | refine ah ?_ _)); refine ch (cs := #[.string (⟨#[]⟩ : ByteArray), .int .i64 0, .int .i64 0, .slice none 0 0, .slice none 0 0]) ?_ 0 _ rfl; (with_reducible repeat (first | refine aj ?_ _ | refine ag ?_ | refine ah ?_ _)); exact BK225.out) : P := h
theorem Z8 (h : P := by repeat (first | (with_reducible first | exact HB.out | apply ab | apply af | apply ac | refine aa ?_ GE128.out) | exact HB.out)) : P := h
theorem Z9 (h : P := by (with_reducible repeat (first | refine aj ?_ _ | refine ag ?_ | refine ah ?_ _)); refine ch (cs := #[.int .i64 ((ar l0_3 x3_2).f0), .int .i64 ((ar l0_3 x3_2).f1), .string (⟨#[]⟩ : ByteArray)]) ?_ 2 _ rfl; (with_reducible repeat (first | refine aj ?_ _ | refine ag ?_ | refine ah ?_ _)); refine ch (cs := #[.int .i64 ((ar l0_3 x3_2).f0), .int .i64 0, .string (⟨#[]⟩ : ByteArray)]) ?_ 1 _ rfl; (with_reducible repeat (first | refine aj ?_ _ | refine ag ?_ | refine ah ?_ _)); refine ch (cs := #[.int .i64 0, .int .i64 0, .string (⟨#[]⟩ : ByteArray)]) ?_ 0 _ rfl; (with_reducible repeat (first | refine aj ?_ _ | refine ag ?_ | refine ah ?_ _)); exact BK133.out) : P := h
theorem Z10 (h : P := by (with_reducible repeat (first | refine aj ?_ _ | refine ag ?_ | refine ah ?_ _)); refine ch (cs := #[.string ((ax l0 x10_1).f0), .int .i64 ((ax l0 x10_1).f1), .int .i64 ((ax l0 x10_1).f2), .slice A346_3 ((ax l0 x10_1).f3).length c346_3, .slice none 0 0]) ?_ 4 _ rfl; (with_reducible repeat (first | refine aj ?_ _ | refine ag ?_ | refine ah ?_ _)); refine ch (cs := #[.string ((ax l0 x10_1).f0), .int .i64 ((ax l0 x10_1).f1), .int .i64 ((ax l0 x10_1).f2), .slice none 0 0, .slice none 0 0]) ?_ 3 _ rfl; (with_reducible repeat (first | refine aj ?_ _ | refine ag ?_ | refine ah ?_ _)); refine ch (cs := #[.string ((ax l0 x10_1).f0), .int .i64 ((ax l0 x10_1).f1), .int .i64 0, .slice none 0 0, .slice none 0 0]) ?_ 2 _ rfl; (with_reducible repeat (first | refine aj ?_ _ | refine ag ?_ | refine ah ?_ _)); refine ch (cs := #[.string ((ax l0 x10_1).f0), .int .i64 0, .int .i64 0, .slice none 0 0, .slice none 0 0]) ?_ 1 _ rfl; (with_reducible repeat (first | refine aj ?_ _ | refine ag ?_ | refine ah ?_ _)); refine ch (cs := #[.string (⟨#[]⟩ : ByteArray), .int .i64 0, .int .i64 0, .slice none 0 0, .slice none 0 0]) ?_ 0 _ rfl; (with_reducible repeat (first | refine aj ?_ _ | refine ag ?_ | refine ah ?_ _)); exact BK347.out) : P := h
theorem Z11 (h : P := by repeat (first | (with_reducible first | exact HB.out | apply ab | apply af | apply ac | refine aa ?_ GE210.out | refine aa ?_ GE215.out) | exact HB.out)) : P := h
theorem Z12 (h : P := by repeat (first | exact ew.refl _ | apply ew.step)) : P := h
theorem Z14 (h : P := by (with_reducible repeat (first | refine aj ?_ _ | refine ag ?_ | refine ah ?_ _)); refine ch (cs := #[.int .i64 t356, .int .i64 t372, .int .i64 t359, .int .i64 t362, .string t375, .slice none 0 0]) ?_ 5 _ rfl; (with_reducible repeat (first | refine aj ?_ _ | refine ag ?_ | refine ah ?_ _)); refine ch (cs := #[.int .i64 t356, .int .i64 t372, .int .i64 t359, .int .i64 t362, .string (⟨#[]⟩ : ByteArray), .slice none 0 0]) ?_ 4 _ rfl; (with_reducible repeat (first | refine aj ?_ _ | refine ag ?_ | refine ah ?_ _)); refine ch (cs := #[.int .i64 t356, .int .i64 t372, .int .i64 t359, .int .i64 0, .string (⟨#[]⟩ : ByteArray), .slice none 0 0]) ?_ 3 _ rfl; (with_reducible repeat (first | refine aj ?_ _ | refine ag ?_ | refine ah ?_ _)); refine ch (cs := #[.int .i64 t356, .int .i64 t372, .int .i64 0, .int .i64 0, .string (⟨#[]⟩ : ByteArray), .slice none 0 0]) ?_ 2 _ rfl; (with_reducible repeat (first | refine aj ?_ _ | refine ag ?_ | refine ah ?_ _)); refine ch (cs := #[.int .i64 t356, .int .i64 0, .int .i64 0, .int .i64 0, .string (⟨#[]⟩ : ByteArray), .slice none 0 0]) ?_ 1 _ rfl; (with_reducible repeat (first | refine aj ?_ _ | refine ag ?_ | refine ah ?_ _)); refine ch (cs := #[.int .i64 0, .int .i64 0, .int .i64 0, .int .i64 0, .string (⟨#[]⟩ : ByteArray), .slice none 0 0]) ?_ 0 _ rfl; (with_reducible repeat (first | refine aj ?_ _ | refine ag ?_ | refine ah ?_ _)); exact BK354.out) : P := h
theorem Z15 (h : P := by repeat (first | (with_reducible first | exact HB.out | apply ab | apply af | apply ac | refine aa ?_ GE334.out) | exact HB.out)) : P := h
theorem Z16 (h : P := by kernel_rfl) : P := h
theorem Z17 (h : P := by (with_reducible repeat (first | refine aj ?_ _ | refine ag ?_ | refine ah ?_ _)); exact BK210.out) : P := h
theorem Z18 (h : P := by (with_reducible repeat (first | refine aj ?_ _ | refine ag ?_ | refine ah ?_ _)); refine blk_far ?_ NB128_133.out _; (with_reducible repeat (first | refine aj ?_ _ | refine ag ?_ | refine ah ?_ _)); refine blk_far ?_ NB128_133.out _; (with_reducible repeat (first | refine aj ?_ _ | refine ag ?_ | refine ah ?_ _)); refine blk_far ?_ NB128_133.out _; (with_reducible repeat (first | refine aj ?_ _ | refine ag ?_ | refine ah ?_ _)); exact BK128.out) : P := h
theorem Z19 (h : P := by (with_reducible repeat (first | refine aj ?_ _ | refine ag ?_ | refine ah ?_ _)); exact BK128.out) : P := h
theorem Z20 (h : P := by (with_reducible repeat (first | refine aj ?_ _ | refine ag ?_ | refine ah ?_ _)); refine blk_far ?_ NB223_225.out _; (with_reducible repeat (first | refine aj ?_ _ | refine ag ?_ | refine ah ?_ _)); refine blk_far ?_ NB223_225.out _; (with_reducible repeat (first | refine aj ?_ _ | refine ag ?_ | refine ah ?_ _)); refine blk_far ?_ NB223_225.out _; (with_reducible repeat (first | refine aj ?_ _ | refine ag ?_ | refine ah ?_ _)); refine blk_far ?_ NB223_225.out _; (with_reducible repeat (first | refine aj ?_ _ | refine ag ?_ | refine ah ?_ _)); refine blk_far ?_ NB223_225.out _; (with_reducible repeat (first | refine aj ?_ _ | refine ag ?_ | refine ah ?_ _)); exact BK223.out) : P := h
theorem Z21 (h : P := by repeat (first | (with_reducible first | exact HB.out | apply ab | apply af | apply ac | refine aa ?_ GE210.out) | exact HB.out)) : P := h
theorem Z22 (h : P := by repeat (first | (with_reducible first | exact HB.out | apply ab | apply af | apply ac | refine aa ?_ GE202.out) | exact HB.out)) : P := h
theorem Z23 (h : P := by repeat (first | (with_reducible first | exact HB.out | apply ab | apply af | apply ac | refine aa ?_ GE398.out) | exact HB.out)) : P := h
theorem Z24 (h : P := by repeat (first | (with_reducible first | exact HB.out | apply ab | apply af | apply ac | refine aa ?_ GE475.out) | exact HB.out)) : P := h
theorem Z25 (h : P := by repeat (first | (with_reducible first | exact HB.out | apply ab | apply af | apply ac | refine aa ?_ GE230.out) | exact HB.out)) : P := h
theorem Z26 (h : P := by repeat (first | (with_reducible first | exact HB.out | apply ab | apply af | apply ac | refine aa ?_ GE128.out | refine aa ?_ GE133.out) | exact HB.out)) : P := h
theorem Z27 (h : P := by (with_reducible repeat (first | refine aj ?_ _ | refine ag ?_ | refine ah ?_ _)); refine ch (cs := #[.int .i64 0, .int .i64 0, .int .i64 0, .int .i64 0, .string (⟨#[]⟩ : ByteArray), .slice none 0 0]) ?_ 5 _ rfl; (with_reducible repeat (first | refine aj ?_ _ | refine ag ?_ | refine ah ?_ _)); refine ch (cs := #[.int .i64 0, .int .i64 0, .int .i64 0, .int .i64 0, .string x211004_2, .slice none 0 0]) ?_ 4 _ rfl; (with_reducible repeat (first | refine aj ?_ _ | refine ag ?_ | refine ah ?_ _)); refine ch (cs := #[.int .i64 0, .int .i64 0, .int .i64 0, .int .i64 x211003_2, .string x211004_2, .slice none 0 0]) ?_ 3 _ rfl; (with_reducible repeat (first | refine aj ?_ _ | refine ag ?_ | refine ah ?_ _)); refine ch (cs := #[.int .i64 0, .int .i64 0, .int .i64 x211002_2, .int .i64 x211003_2, .string x211004_2, .slice none 0 0]) ?_ 2 _ rfl; (with_reducible repeat (first | refine aj ?_ _ | refine ag ?_ | refine ah ?_ _)); refine ch (cs := #[.int .i64 0, .int .i64 x211001_2, .int .i64 x211002_2, .int .i64 x211003_2, .string x211004_2, .slice none 0 0]) ?_ 1 _ rfl; (with_reducible repeat (first | refine aj ?_ _ | refine ag ?_ | refine ah ?_ _)); refine ch (cs := #[.int .i64 x211000_2, .int .i64 x211001_2, .int .i64 x211002_2, .int .i64 x211003_2, .string x211004_2, .slice none 0 0]) ?_ 0 _ rfl; (with_reducible repeat (first | refine aj ?_ _ | refine ag ?_ | refine ah ?_ _)); exact BK210.out) : P := h
theorem Z28 (h : P := by repeat (first | (with_reducible first | exact HB.out | apply ab | apply af | apply ac | refine aa ?_ GE347.out) | exact HB.out)) : P := h
theorem Z29 (h : P := by repeat (first | (with_reducible first | exact HB.out | apply ab | apply af | apply ac | refine aa ?_ GE459.out) | exact HB.out)) : P := h
theorem Z30 (h : P := by (with_reducible repeat (first | refine aj ?_ _ | refine ag ?_ | refine ah ?_ _)); exact BK475.out) : P := h
theorem Z31 (h : P := by omega) : P := h
theorem Z32 (h : P := by first | (simp only [putAll, Act.put, List.setIfInBounds_toArray, List.set_cons_zero, List.set_cons_succ]; done) | (simp only [putAll, Act.put, List.setIfInBounds_toArray, List.set_cons_zero, List.set_cons_succ]; rfl)) : P := h
theorem Z33 (h : P := by repeat (first | (with_reducible first | exact HB.out | apply ab | apply af | apply ac | refine aa ?_ GE223.out | refine aa ?_ GE225.out) | exact HB.out)) : P := h
theorem Z34 (h : P := by repeat (first | (with_reducible first | exact HK.out | apply Kept.alloc | apply Kept.drewN | apply Kept.drew) | exact HK.out)) : P := h
theorem Z35 (h : P := by (with_reducible repeat (first | refine aj ?_ _ | refine ag ?_ | refine ah ?_ _)); exact BK334.out) : P := h
theorem Z36 (h : P := by (with_reducible repeat (first | refine aj ?_ _ | refine ag ?_ | refine ah ?_ _)); exact BK459.out) : P := h
theorem Z37 (h : P := by repeat (first | (with_reducible first | exact HB.out | apply ab | apply af | apply ac | refine aa ?_ (bu.ge HI355.out) | refine aa ?_ GE354.out | refine aa ?_ GE365.out) | exact HB.out)) : P := h
theorem Z38 (h : P := by (with_reducible repeat (first | refine aj ?_ _ | refine ag ?_ | refine ah ?_ _)); exact BK354.out) : P := h
theorem Z39 (h : P := by clear hwr; have hz_ := hb.size; have hn_ := HN3.out; (try simp only [World.size_alloc, World.size_drew, World.size_setCell] at hz_); (try simp only [World.size_alloc, World.size_drew, World.size_setCell] at hn_); (try simp only [World.size_alloc, World.size_drew, World.size_setCell]); omega) : P := h
theorem Z40 (h : P := by repeat (first | (with_reducible first | exact HB.out | apply ab | apply af | apply ac | refine aa ?_ GE450.out) | exact HB.out)) : P := h
theorem Z41 (h : P := by repeat (first | (with_reducible first | exact HB.out | apply ab | apply af | apply ac | refine aa ?_ GE452.out) | exact HB.out)) : P := h
theorem Z42 (h : P := by (with_reducible repeat (first | refine aj ?_ _ | refine ag ?_ | refine ah ?_ _)); exact BK215.out) : P := h
theorem Z43 (h : P := by first | (rw [add_block]; exact hn224_0) | (show (Addr.add _ _).block ≠ _; rw [add_block]; exact hn224_0) | exact hn224_0) : P := h
theorem Z44 (h : P := by first | (rw [add_block]; exact hn224_1) | (show (Addr.add _ _).block ≠ _; rw [add_block]; exact hn224_1) | exact hn224_1) : P := h
theorem Z45 (h : P := by first | (rw [add_block]; exact hn224_2) | (show (Addr.add _ _).block ≠ _; rw [add_block]; exact hn224_2) | exact hn224_2) : P := h
theorem Z46 (h : P := by first | (rw [add_block]; exact hn224_3) | (show (Addr.add _ _).block ≠ _; rw [add_block]; exact hn224_3) | exact hn224_3) : P := h
theorem Z47 (h : P := by first | (rw [add_block]; exact hn224_4) | (show (Addr.add _ _).block ≠ _; rw [add_block]; exact hn224_4) | exact hn224_4) : P := h
theorem Z48 (h : P := by repeat (first | (with_reducible first | exact HB.out | apply ab | apply af | apply ac | refine aa ?_ GE161.out | refine aa ?_ GE162.out) | exact HB.out)) : P := h
theorem Z49 (h : P := by repeat (first | (with_reducible first | exact HB.out | apply ab | apply af | apply ac | refine aa ?_ GE459.out | refine aa ?_ GE460.out) | exact HB.out)) : P := h
theorem Z50 (h : P := by repeat (first | (with_reducible first | exact HB.out | apply ab | apply af | apply ac | refine aa ?_ GE475.out | refine aa ?_ GE476.out) | exact HB.out)) : P := h
theorem Z51 (h : P := by (with_reducible repeat (first | refine aj ?_ _ | refine ag ?_ | refine ah ?_ _)); exact BK244.out) : P := h
theorem Z52 (h : P := by (with_reducible repeat (first | refine aj ?_ _ | refine ag ?_ | refine ah ?_ _)); exact BK466.out) : P := h
theorem Z53 (h : P := by repeat (first | (with_reducible first | exact HB.out | apply ab | apply af | apply ac | refine aa ?_ GE283.out | refine aa ?_ GE284.out | refine aa ?_ GE285.out) | exact HB.out)) : P := h
theorem Z54 (h : P := by repeat (first | (with_reducible first | exact HB.out | apply ab | apply af | apply ac | refine aa ?_ GE244.out | refine aa ?_ GE245.out) | exact HB.out)) : P := h
theorem Z55 (h : P := by repeat (first | (with_reducible first | exact HB.out | apply ab | apply af | apply ac | refine aa ?_ GE466.out | refine aa ?_ GE467.out) | exact HB.out)) : P := h
theorem Z56 (h : P := by (with_reducible repeat (first | apply Kd.R_alloc | apply Kd.R_drewN | apply Kd.R_drew)); exact HO_0.out) : P := h
theorem Z57 (h : P := by (with_reducible repeat (first | refine aj ?_ _ | refine ag ?_ | refine ah ?_ _)); exact BK230.out) : P := h
theorem Z58 (h : P := by (with_reducible repeat (first | refine aj ?_ _ | refine ag ?_ | refine ah ?_ _)); exact BK398.out) : P := h
theorem Z59 (h : P := by repeat (first | (with_reducible first | exact HI355.out | apply bu.alloc | apply bu.drewN | apply bu.drew | apply bu.set_0 | apply bu.set_1 | refine bu.far ?_ NB355_354.out _ | refine bu.far ?_ NB355_365.out _) | exact HI355.out)) : P := h
theorem Z60 (h : P := by repeat (first | (with_reducible first | exact HB.out | apply ab | apply af | apply ac | refine aa ?_ GE223.out) | exact HB.out)) : P := h
theorem Z61 (h : P := by repeat (first | (with_reducible first | exact HB.out | apply ab | apply af | apply ac | refine aa ?_ GE244.out) | exact HB.out)) : P := h
theorem Z62 (h : P := by repeat (first | (with_reducible first | exact HB.out | apply ab | apply af | apply ac | refine aa ?_ GE466.out) | exact HB.out)) : P := h
theorem Z63 (h : P := by repeat (first | (with_reducible first | exact HB.out | apply ab | apply af | apply ac | refine aa ?_ GE470.out) | exact HB.out)) : P := h
theorem Z64 (h : P := by (with_reducible repeat (first | refine aj ?_ _ | refine ag ?_ | refine ah ?_ _)); exact BK450.out) : P := h
theorem Z65 (h : P := by (with_reducible repeat (first | refine aj ?_ _ | refine ag ?_ | refine ah ?_ _)); exact BK452.out) : P := h
theorem Z66 (h : P := by (with_reducible repeat (first | apply Kd.R_alloc | apply Kd.R_drewN | apply Kd.R_drew)); exact HO_5.out) : P := h
theorem Z67 (h : P := by repeat (first | (with_reducible first | exact HB.out | apply ab | apply af | apply ac | refine aa ?_ GE111.out) | exact HB.out)) : P := h
theorem Z68 (h : P := by decide) : P := h
theorem Z69 (h : P := by repeat (first | exact Below.refl _ _ | apply af | apply ac)) : P := h
theorem Z70 (h : P := by (with_reducible repeat (first | refine aj ?_ _ | refine ag ?_ | refine ah ?_ _)); exact BK365.out) : P := h
theorem Z71 (h : P := by have i6_ := N6.out; have i8_ := N8.out; have i10_ := N10.out; have i12_ := N12.out; omega) : P := h
theorem Z72 (h : P := by repeat (first | (with_reducible first | exact HB.out | apply ab | apply af | apply ac | refine aa ?_ GE106.out) | exact HB.out)) : P := h
theorem Z73 (h : P := by repeat (first | (with_reducible first | exact HB.out | apply ab | apply af | apply ac | refine aa ?_ GE306.out | refine aa ?_ GE307.out | refine aa ?_ GE308.out) | exact HB.out)) : P := h
theorem Z74 (h : P := by (with_reducible repeat (first | refine aj ?_ _ | refine ag ?_ | refine ah ?_ _)); exact BK470.out) : P := h
theorem Z75 (h : P := by (with_reducible repeat (first | apply Kd.R_alloc | apply Kd.R_drewN | apply Kd.R_drew)); exact HO214.out) : P := h
theorem Z76 (h : P := by (with_reducible repeat (first | apply Kd.R_alloc | apply Kd.R_drewN | apply Kd.R_drew)); exact HO_3.out) : P := h
theorem Z77 (h : P := by repeat (first | (with_reducible first | exact HB.out | apply ab | apply af | apply ac | refine aa ?_ GE259.out) | exact HB.out)) : P := h
theorem Z78 (h : P := by repeat (first | (with_reducible first | exact HB.out | apply ab | apply af | apply ac | refine aa ?_ GE424.out) | exact HB.out)) : P := h
theorem Z79 (h : P := by repeat (first | (with_reducible first | exact HB.out | apply ab | apply af | apply ac | refine aa ?_ GE412.out | refine aa ?_ GE413.out) | exact HB.out)) : P := h
theorem Z80 (h : P := by (with_reducible repeat (first | refine aj ?_ _ | refine ag ?_ | refine ah ?_ _)); exact BK259.out) : P := h
theorem Z81 (h : P := by repeat (first | (with_reducible first | exact HB.out | apply ab | apply af | apply ac | refine aa ?_ GE325.out | refine aa ?_ GE326.out | refine aa ?_ GE327.out) | exact HB.out)) : P := h
theorem Z82 (h : P := by first | omega | exact Nat.le_refl _) : P := h
theorem Z83 (h : P := by (with_reducible repeat (first | apply Kd.R_alloc | apply Kd.R_drewN | apply Kd.R_drew)); exact HO_366005.out) : P := h
theorem Z84 (h : P := by rw [← hq_]; exact (by repeat (first | (with_reducible first | exact HB.out | apply ab | apply af | apply ac | refine aa ?_ GE210.out | refine aa ?_ GE215.out) | exact HB.out))) : P := h
theorem Z85 (h : P := by have := HK1.out; omega) : P := h
theorem Z86 (h : P := by (with_reducible repeat (first | refine aj ?_ _ | refine ag ?_ | refine ah ?_ _)); exact BK306.out) : P := h
theorem Z87 (h : P := by repeat (first | (with_reducible first | exact HB.out | apply ab | apply af | apply ac | refine aa ?_ GE117.out) | exact HB.out)) : P := h
theorem Z88 (h : P := by repeat (first | (with_reducible first | exact HB.out | apply ab | apply af | apply ac | refine aa ?_ GE354.out) | exact HB.out)) : P := h
theorem Z89 (h : P := by repeat (first | (with_reducible first | exact HB.out | apply ab | apply af | apply ac | refine aa ?_ GE259.out | refine aa ?_ GE260.out) | exact HB.out)) : P := h
theorem Z90 (h : P := by repeat (first | (with_reducible first | exact HB.out | apply ab | apply af | apply ac | refine aa ?_ GE334.out | refine aa ?_ GE339.out) | exact HB.out)) : P := h
theorem Z91 (h : P := by repeat (first | (with_reducible first | exact HB.out | apply ab | apply af | apply ac | refine aa ?_ GE450.out | refine aa ?_ GE451.out) | exact HB.out)) : P := h
theorem Z92 (h : P := by repeat (first | (with_reducible first | exact HB.out | apply ab | apply af | apply ac | refine aa ?_ GE452.out | refine aa ?_ GE453.out) | exact HB.out)) : P := h
theorem Z93 (h : P := by (with_reducible repeat (first | refine aj ?_ _ | refine ag ?_ | refine ah ?_ _)); refine blk_far ?_ NB354_365.out _; (with_reducible repeat (first | refine aj ?_ _ | refine ag ?_ | refine ah ?_ _)); exact BK354.out) : P := h
theorem Z94 (h : P := by (with_reducible repeat (first | apply Kd.S_alloc | apply Kd.S_drewN | apply Kd.S_drew)); exact HO_3.out) : P := h
theorem Z95 (h : P := by first | rfl | (simp only [nil_beq, nil_bne]; rfl) | (simp [nil_beq, nil_bne]; done) | (simp [errW_none, errW_some] <;> rfl) | (simp only [← hji24]; first | rfl | (simp [errW_none, errW_some] <;> rfl)) | (simp [*, errW_none, errW_some] <;> rfl)) : P := h
theorem Z96 (h : P := by rfl) : P := h
theorem Z97 (h : P := by first | exact Nat.le_refl _ | exact HV1.out.size | exact HV2.out.size) : P := h
theorem Z98 (h : P := by (with_reducible repeat (first | refine aj ?_ _ | refine ag ?_ | refine ah ?_ _)); exact BK161.out) : P := h
theorem Z99 (h : P := by (with_reducible repeat (first | refine aj ?_ _ | refine ag ?_ | refine ah ?_ _)); exact BK202.out) : P := h
theorem Z100 (h : P := by (with_reducible repeat (first | refine aj ?_ _ | refine ag ?_ | refine ah ?_ _)); exact BK264.out) : P := h
theorem Z101 (h : P := by (with_reducible repeat (first | refine aj ?_ _ | refine ag ?_ | refine ah ?_ _)); exact BK267.out) : P := h
theorem Z102 (h : P := by (with_reducible repeat (first | refine aj ?_ _ | refine ag ?_ | refine ah ?_ _)); exact BK283.out) : P := h
theorem Z103 (h : P := by (with_reducible repeat (first | refine aj ?_ _ | refine ag ?_ | refine ah ?_ _)); exact BK315.out) : P := h
theorem Z104 (h : P := by (with_reducible repeat (first | refine aj ?_ _ | refine ag ?_ | refine ah ?_ _)); exact BK325.out) : P := h
theorem Z105 (h : P := by first | exact Kd.R_nil _ _ _ _ _ | exact Kd.N_nil _ _ _ _ _ | exact Kd.V_nil _ _ _ _ _ | exact Kd.Q_nil _ _ _ _ _ | exact Kd.S_nil _ _ _ _ _) : P := h
theorem Z106 (h : P := by repeat (first | (with_reducible first | exact HB.out | apply ab | apply af | apply ac | refine aa ?_ GE200.out) | exact HB.out)) : P := h
theorem Z107 (h : P := by repeat (first | (with_reducible first | exact HB.out | apply ab | apply af | apply ac | refine aa ?_ GE502.out) | exact HB.out)) : P := h
theorem Z108 (h : P := by (with_reducible repeat (first | apply Kd.R_alloc | apply Kd.R_drewN | apply Kd.R_drew)); exact HO_216005.out) : P := h
theorem Z109 (h : P := by rw [← add_field _ _ 1 (by omega)]; exact hc 1 _ rfl) : P := h
theorem Z110 (h : P := by have hq_ := hq; have i6_ := N6.out; have i8_ := N8.out; have i10_ := N10.out; have i12_ := N12.out; omega) : P := h
theorem Z111 (h : P := by repeat (first | (with_reducible first | exact HB.out | apply ab | apply af | apply ac | refine aa ?_ (bu.ge HI355.out) | refine aa ?_ GE354.out) | exact HB.out)) : P := h
theorem Z112 (h : P := by (with_reducible repeat (first | refine aj ?_ _ | refine ag ?_ | refine ah ?_ _)); exact BK111.out) : P := h
theorem Z113 (h : P := by (with_reducible repeat (first | refine aj ?_ _ | refine ag ?_ | refine ah ?_ _)); exact BK245.out) : P := h
theorem Z114 (h : P := by (with_reducible repeat (first | refine aj ?_ _ | refine ag ?_ | refine ah ?_ _)); exact BK412.out) : P := h
theorem Z115 (h : P := by (with_reducible repeat (first | refine aj ?_ _ | refine ag ?_ | refine ah ?_ _)); exact BK467.out) : P := h
theorem Z116 (h : P := by repeat (first | (with_reducible first | exact HB.out | apply ab | apply af | apply ac | refine aa ?_ GE248.out | refine aa ?_ GE249.out) | exact HB.out)) : P := h
theorem Z117 (h : P := by repeat (first | (with_reducible first | exact HB.out | apply ab | apply af | apply ac | refine aa ?_ GE264.out | refine aa ?_ GE265.out) | exact HB.out)) : P := h
theorem Z118 (h : P := by repeat (first | (with_reducible first | exact HB.out | apply ab | apply af | apply ac | refine aa ?_ GE267.out | refine aa ?_ GE268.out) | exact HB.out)) : P := h
theorem Z119 (h : P := by repeat (first | (with_reducible first | exact HB.out | apply ab | apply af | apply ac | refine aa ?_ GE283.out | refine aa ?_ GE284.out) | exact HB.out)) : P := h
theorem Z120 (h : P := by repeat (first | (with_reducible first | exact HB.out | apply ab | apply af | apply ac | refine aa ?_ GE306.out | refine aa ?_ GE307.out) | exact HB.out)) : P := h
theorem Z121 (h : P := by repeat (first | (with_reducible first | exact HB.out | apply ab | apply af | apply ac | refine aa ?_ GE315.out | refine aa ?_ GE316.out) | exact HB.out)) : P := h
theorem Z122 (h : P := by repeat (first | (with_reducible first | exact HB.out | apply ab | apply af | apply ac | refine aa ?_ GE325.out | refine aa ?_ GE326.out) | exact HB.out)) : P := h
theorem Z123 (h : P := by repeat (first | (with_reducible first | exact HB.out | apply ab | apply af | apply ac | refine aa ?_ GE435.out | refine aa ?_ GE436.out) | exact HB.out)) : P := h
theorem Z124 (h : P := by repeat (first | (with_reducible first | exact HB.out | apply ab | apply af | apply ac | refine aa ?_ GE470.out | refine aa ?_ GE471.out) | exact HB.out)) : P := h
theorem Z125 (h : P := by repeat (first | (with_reducible first | exact HK.out | apply dd.set_ | apply keep_drewN | apply keep_drew | apply keep_alloc) | exact HK.out)) : P := h
theorem fg (h : P := by simp) : P := h
theorem Z127 (h : P := by rw [← hq_]; exact (by (with_reducible repeat (first | refine aj ?_ _ | refine ag ?_ | refine ah ?_ _)); exact BK210.out)) : P := h
theorem Z128 (h : P := by rw [← hq_]; exact (by (with_reducible repeat (first | refine aj ?_ _ | refine ag ?_ | refine ah ?_ _)); exact BK215.out)) : P := h
theorem Z130 (h : P := by repeat (first | exact EX3.out | (with_reducible refine ah ?_ _) | (with_reducible refine ag ?_) | (refine blk_far ?_ (by have h0_ := en MX.out; (try have h1_ := en MX1.out); (try have h2_ := en MX2.out); (try have h3_ := en MX3.out); simp; omega) _))) : P := h
theorem Z131 (h : P := by repeat (first | exact MX3.out | (with_reducible refine ah ?_ _) | (with_reducible refine ag ?_) | (refine blk_far ?_ (by have h0_ := en MX.out; (try have h1_ := en MX1.out); (try have h2_ := en MX2.out); (try have h3_ := en MX3.out); simp; omega) _))) : P := h
theorem Z132 (h : P := by repeat (first | exact blk_made (by first | rfl | (simp; done)) | (with_reducible refine ah ?_ _) | (with_reducible refine ai ?_ hb) | (with_reducible refine ag ?_))) : P := h
theorem Z133 (h : P := by rw [← add_field _ _ 2 (by omega)]; exact hc 2 _ rfl) : P := h
theorem Z134 (h : P := by rw [← hq_]; exact (by (with_reducible repeat (first | apply Kd.R_alloc | apply Kd.R_drewN | apply Kd.R_drew)); exact HO_216005.out)) : P := h
theorem Z135 (h : P := by (with_reducible repeat (first | apply Kd.R_alloc | apply Kd.R_drewN | apply Kd.R_drew)); exact HO403.out) : P := h
theorem Z136 (h : P := by repeat (first | (with_reducible first | exact HI0.out | apply bu.alloc | apply bu.drewN | apply bu.drew | apply bu.set_0 | apply bu.set_1) | exact HI0.out)) : P := h
theorem Z137 (h : P := by repeat (first | (with_reducible first | exact HB.out | apply ab | apply af | apply ac | refine aa ?_ (bu.ge HI0.out)) | exact HB.out)) : P := h
theorem Z140 (h : P := by repeat (first | (with_reducible first | exact HB.out | apply ab | apply af | apply ac | refine aa ?_ GE114.out) | exact HB.out)) : P := h
theorem Z141 (h : P := by repeat (first | (with_reducible first | exact HB.out | apply ab | apply af | apply ac | refine aa ?_ GE119.out) | exact HB.out)) : P := h
theorem Z142 (h : P := by repeat (first | (with_reducible first | exact HB.out | apply ab | apply af | apply ac | refine aa ?_ GE161.out) | exact HB.out)) : P := h
theorem Z143 (h : P := by repeat (first | (with_reducible first | exact HB.out | apply ab | apply af | apply ac | refine aa ?_ GE248.out) | exact HB.out)) : P := h
theorem Z144 (h : P := by repeat (first | (with_reducible first | exact HB.out | apply ab | apply af | apply ac | refine aa ?_ GE262.out) | exact HB.out)) : P := h
theorem Z145 (h : P := by repeat (first | (with_reducible first | exact HB.out | apply ab | apply af | apply ac | refine aa ?_ GE264.out) | exact HB.out)) : P := h
theorem Z146 (h : P := by repeat (first | (with_reducible first | exact HB.out | apply ab | apply af | apply ac | refine aa ?_ GE267.out) | exact HB.out)) : P := h
theorem Z147 (h : P := by repeat (first | (with_reducible first | exact HB.out | apply ab | apply af | apply ac | refine aa ?_ GE283.out) | exact HB.out)) : P := h
theorem Z148 (h : P := by repeat (first | (with_reducible first | exact HB.out | apply ab | apply af | apply ac | refine aa ?_ GE306.out) | exact HB.out)) : P := h
theorem Z149 (h : P := by repeat (first | (with_reducible first | exact HB.out | apply ab | apply af | apply ac | refine aa ?_ GE315.out) | exact HB.out)) : P := h
theorem Z150 (h : P := by repeat (first | (with_reducible first | exact HB.out | apply ab | apply af | apply ac | refine aa ?_ GE325.out) | exact HB.out)) : P := h
theorem Z151 (h : P := by repeat (first | (with_reducible first | exact HB.out | apply ab | apply af | apply ac | refine aa ?_ GE331.out) | exact HB.out)) : P := h
theorem Z152 (h : P := by repeat (first | (with_reducible first | exact HB.out | apply ab | apply af | apply ac | refine aa ?_ GE412.out) | exact HB.out)) : P := h
theorem Z153 (h : P := by repeat (first | (with_reducible first | exact HB.out | apply ab | apply af | apply ac | refine aa ?_ GE435.out) | exact HB.out)) : P := h
theorem Z154 (h : P := by repeat (first | (with_reducible first | exact HB.out | apply ab | apply af | apply ac | refine aa ?_ GE440.out) | exact HB.out)) : P := h
theorem Z155 (h : P := by repeat (first | (with_reducible first | exact HB.out | apply ab | apply af | apply ac | refine aa ?_ GE443.out) | exact HB.out)) : P := h
theorem Z156 (h : P := by (with_reducible repeat (first | refine aj ?_ _ | refine ag ?_ | refine ah ?_ _)); exact BK223.out) : P := h
theorem Z157 (h : P := by (with_reducible repeat (first | refine aj ?_ _ | refine ag ?_ | refine ah ?_ _)); exact BK225.out) : P := h
theorem Z158 (h : P := by (with_reducible repeat (first | refine aj ?_ _ | refine ag ?_ | refine ah ?_ _)); exact BK248.out) : P := h
theorem Z159 (h : P := by (with_reducible repeat (first | refine aj ?_ _ | refine ag ?_ | refine ah ?_ _)); exact BK307.out) : P := h
theorem Z160 (h : P := by (with_reducible repeat (first | refine aj ?_ _ | refine ag ?_ | refine ah ?_ _)); exact BK435.out) : P := h
theorem Z161 (h : P := by (with_reducible repeat (first | refine aj ?_ _ | refine ag ?_ | refine ah ?_ _)); exact BK440.out) : P := h
theorem Z162 (h : P := by repeat (first | exact EX2.out | (with_reducible refine ah ?_ _) | (with_reducible refine ag ?_))) : P := h
theorem Z163 (h : P := by repeat (first | exact MX2.out | (with_reducible refine ah ?_ _) | (with_reducible refine ag ?_))) : P := h
theorem Z164 (h : P := by repeat (first | exact EX1.out | (with_reducible refine ah ?_ _) | (with_reducible refine ag ?_))) : P := h
theorem Z165 (h : P := by repeat (first | exact MX1.out | (with_reducible refine ah ?_ _) | (with_reducible refine ag ?_))) : P := h
theorem Z166 (h : P := by repeat (first | exact EX.out | (with_reducible refine ah ?_ _) | (with_reducible refine ag ?_))) : P := h
theorem Z167 (h : P := by repeat (first | exact MX.out | (with_reducible refine ah ?_ _) | (with_reducible refine ag ?_))) : P := h
theorem Z168 (h : P := by repeat (first | exact XB0.out | (with_reducible refine ag ?_))) : P := h
theorem Z169 (h : P := by repeat (first | (with_reducible first | exact HB.out | apply ab | apply af | apply ac | refine aa ?_ GE440.out | refine aa ?_ GE441.out) | exact HB.out)) : P := h
theorem Z170 (h : P := by have := HK1.out; first | omega | exact Nat.le_refl _) : P := h
theorem Z171 (h : P := by repeat (first | exact HV1.out | exact Below.refl _ _ | apply ab | apply ac)) : P := h
theorem Z172 (h : P := by have := HJ1.out; have := HK2.out; omega) : P := h
theorem Z173 (h : P := by rw [E2.out]; exact (R1.out _).below (by repeat (first | exact Below.refl _ _ | apply af | apply ac))) : P := h
theorem Z174 (h : P := by (with_reducible repeat (first | refine aj ?_ _ | refine ag ?_ | refine ah ?_ _)); exact BK106.out) : P := h
theorem Z175 (h : P := by (with_reducible repeat (first | refine aj ?_ _ | refine ag ?_ | refine ah ?_ _)); exact BK162.out) : P := h
theorem Z176 (h : P := by (with_reducible repeat (first | refine aj ?_ _ | refine ag ?_ | refine ah ?_ _)); exact BK262.out) : P := h
theorem Z177 (h : P := by (with_reducible repeat (first | refine aj ?_ _ | refine ag ?_ | refine ah ?_ _)); exact BK265.out) : P := h
theorem Z178 (h : P := by (with_reducible repeat (first | refine aj ?_ _ | refine ag ?_ | refine ah ?_ _)); exact BK268.out) : P := h
theorem Z179 (h : P := by (with_reducible repeat (first | refine aj ?_ _ | refine ag ?_ | refine ah ?_ _)); exact BK284.out) : P := h
theorem Z180 (h : P := by (with_reducible repeat (first | refine aj ?_ _ | refine ag ?_ | refine ah ?_ _)); exact BK316.out) : P := h
theorem Z181 (h : P := by (with_reducible repeat (first | refine aj ?_ _ | refine ag ?_ | refine ah ?_ _)); exact BK326.out) : P := h
theorem Z182 (h : P := by (with_reducible repeat (first | refine aj ?_ _ | refine ag ?_ | refine ah ?_ _)); exact BK443.out) : P := h
theorem Z183 (h : P := by (with_reducible repeat (first | refine aj ?_ _ | refine ag ?_ | refine ah ?_ _)); exact BK460.out) : P := h
theorem Z184 (h : P := by repeat (first | (with_reducible first | exact HK.out | apply Kept.alloc | apply Kept.drewN | apply Kept.drew | refine Kept.setCell ?_ (.inr GW485.out) _) | exact HK.out)) : P := h
theorem Z185 (h : P := by (try simp only [List.map_toArray, List.map_cons, List.map_nil]); first | done | (simp only [hji13]; rfl) | rfl | (simp only [List.length_drop, List.length_take]; rfl)) : P := h
theorem Z186 (h : P := by repeat (first | (with_reducible first | exact HB.out | apply ab | apply af | apply ac | refine aa ?_ GE101.out) | exact HB.out)) : P := h
theorem Z187 (h : P := by repeat (first | (with_reducible first | exact HB.out | apply ab | apply af | apply ac | refine aa ?_ GE102.out) | exact HB.out)) : P := h
theorem Z188 (h : P := by repeat (first | (with_reducible first | exact HB.out | apply ab | apply af | apply ac | refine aa ?_ GE196.out) | exact HB.out)) : P := h
theorem Z189 (h : P := by rw [← add_field _ _ 3 (by omega)]; exact hc 3 _ rfl) : P := h
theorem Z190 (h : P := by rw [← hq_]; exact (by repeat (first | (with_reducible first | exact HB.out | apply ab | apply af | apply ac) | exact HB.out))) : P := h
theorem Z191 (h : P := by (with_reducible repeat (first | apply Kd.R_alloc | apply Kd.R_drewN | apply Kd.R_drew)); exact HO0.out) : P := h
theorem Z192 (h : P := by repeat (first | exact XB4.out | (with_reducible refine ag ?_))) : P := h
theorem Z193 (h : P := by first | exact HV2.out.size | (have h_ := HV2.out.size; simp; omega)) : P := h
theorem Z194 (h : P := by have := HJ1.out; first | omega | exact Nat.le_refl _) : P := h
theorem Z195 (h : P := by (with_reducible repeat (first | apply dm.drewN | apply dm.drew)); exact R2.out _) : P := h
theorem Z196 (h : P := by assumption) : P := h
theorem Z197 (h : P := by rw [AI.out, List.drop_of_length_le (Nat.le_refl _)]; rfl) : P := h
theorem Z198 (h : P := by repeat (first | exact HB2 | refine below_drewN ?_ _)) : P := h
theorem Z199 (h : P := by rw [E.out]; rfl) : P := h
theorem Z200 (h : P := by injection e with e; rwa [e] at hk) : P := h
theorem Z201 (h : P := by rw [← add_field _ _ 4 (by omega)]; exact hc 4 _ rfl) : P := h
theorem Z202 (h : P := by first | rfl | (simp; done)) : P := h
theorem Z203 (h : P := by simp [Value.ownBlock]) : P := h
end Go.Proofs.YtifkmkiljpeaaadGreat.PFnExactCommit
