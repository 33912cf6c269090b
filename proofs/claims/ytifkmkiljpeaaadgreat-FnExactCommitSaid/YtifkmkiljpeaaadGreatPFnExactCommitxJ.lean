import Derived.Test.YtifkmkiljpeaaadGreatPFnExactCommitxA
import Derived.Test.YtifkmkiljpeaaadGreatPFnExactCommitxB
import Derived.Test.YtifkmkiljpeaaadGreatPFnExactCommitxC
import Derived.Test.YtifkmkiljpeaaadGreatPFnExactCommitxI
set_option maxHeartbeats 40000000
set_option maxRecDepth 100000
namespace Go.Proofs.YtifkmkiljpeaaadGreat.PFnExactCommit
open Go.RowKit Go.Proofs.YtifkmkiljpeaaadGreatW.PrintWords Go.Proofs.YtifkmkiljpeaaadGreatW.PrintLast Go.Proofs.YtifkmkiljpeaaadGreatW.PrintMore Go.Proofs.YtifkmkiljpeaaadGreat.Mac Go.Proofs.Tryz
set_option linter.unusedVariables false
set_option linter.unusedSimpArgs false
def impl_Log_sync.f (y : Int) (s : ByteArray) (D : Int) : Option (Int × ByteArray × Int) := some (y, s, (s.size : Int))
theorem impl_Log_sync.calls (y : Int) (s : ByteArray) (D : Int) (I : Int) (J : ByteArray) (M : Int) (w : World) (h : impl_Log_sync.f y s D = some (I, J, M)) :
  Calls prog 59 #[.agg #[.int .i64 y, .string s, .int .i64 D]] w fun e w' => e = .returned (.agg #[.int .i64 I, .string J, .int .i64 M]) /\ Below w.heap.size w w' := by
 have aA := underlying32
 have HB := aM (bi w.heap.size w)
 have H := h
 clear h
 unfold impl_Log_sync.f at H
 simp only [Option.some.injEq, Prod.mk.injEq] at H
 obtain ⟨rfl, rfl, rfl⟩ := H
 go_enter func59, ntmps59
 go_wp2_with (first | ((with_reducible refine gD 1 ?_); refine bxF w 1 #[.int .i64 y, .string s, .int .i64 D] 32 (Z0) ?_; intro aB hg w2 BK443 aC GE443 HB hb; clear hb hg) | ((with_reducible refine gD 2 ?_); refine bxF w 2 #[.int .i64 0, .string (⟨#[]⟩ : ByteArray), .int .i64 0] 32 (Z155) ?_; intro O hg w3 U aD X HB hb; have Y := aM ((nL BK443 hg (Z182))); have Z := aM ((nG BK443 hg (Z182))); replace BK443 := aM (kB BK443 (Z182) hb); clear hb hg; have aE := Y.out; have aF := Z.out; refine bD3 BK443 ?_; intros; refine bD3 U ?_; intros))
 refine bodyPost_ret (results_cell_row rfl _ _ O 32 #[.int .i64 y, .string s, .int .i64 (s.size : Int)] (0, 0) _ rfl zB underlying32 rfl (Z16)) rfl ?_
 exact ⟨Z1, by repeat (first | (with_reducible first | exact HB.out | apply ab | apply af | apply ac | refine aa ?_ GE443.out | refine aa ?_ X.out) | exact HB.out)⟩
def eq.l0 : Nat -> Int -> List Int -> Int -> Option (ByteArray)
 | 0, _, _, _ => none
 | k + 1, x0, x5, x6 => if x6 ≥ 0 then (if 0 <= x6 then (if x6 < (x5.length : Int) then (eq.l0 k (x0 / 256) (x5.set (x6 : Int).toNat ((x0) % 256)) (wrap64 (x6 - 1))) else (none)) else (none)) else (some (strOfNums x5))
def eq.f (k : Nat) (a0 : Int) (a1 : Int) : Option (ByteArray) := if 0 <= a1 then (if (a1 : Int).toNat <= 281474976710656 then (eq.l0 k a0 (List.replicate (a1 : Int).toNat 0) (wrap64 (a1 - 1))) else (none)) else (none)
theorem eq.calls (k : Nat) (a0 : Int) (a1 : Int) (r : ByteArray) (w : World) (h : eq.f k a0 a1 = some r) :
  Calls prog 119 #[.int .i64 a0, .int .i64 a1] w fun e w' => e = .returned (.string r) /\ Below w.heap.size w w' := by
 have HB := aM (bi w.heap.size w)
 have H := h
 clear h
 unfold eq.f at H
 obtain ⟨c3, H⟩ := ifS H
 have aF := bh c3
 have aG : decide (0 <= a1) = true := az c3
 clear c3
 obtain ⟨c4, H⟩ := ifS H
 have aH := bh c4
 have aI : decide ((a1 : Int).toNat <= 281474976710656) = true := az c4
 clear c4
 obtain ⟨Z, D⟩ : ∃ y_ : List Int, y_ = (List.replicate (a1 : Int).toNat 0) := ⟨_, rfl⟩
 replace H : (eq.l0 k a0 Z (wrap64 (a1 - 1))) = some r := by first | (rw [D]; with_reducible exact H) | (have H2_ := (Option.bind_some _ _).symm.trans H; rw [D]; with_reducible exact H2_) | (have H2_ := (Option.bind_some _ _).symm.trans H; with_reducible exact H2_) | with_reducible exact H | (rw [D]; exact H) | exact H
 have aA := aM D
 clear D
 have H' := aM H
 clear H
 go_enter func119, ntmps119
 go_wp2_with (first | ((with_reducible refine gD 8 ?_); refine Kd.R_make (Kd.int .u8) _ 5 rfl (N := 8) rfl 74 _ _ rfl a1 rfl rfl underlying74 (.int .u8 0) 1 info5 rfl (Z68) (Z31) 0 (ok := fun _ => True) (okp := fun _ => True) rfl (fun _ hk => hk) trivial (dT (Z4)) (Nat.le_trans (Nat.mul_le_mul_right _ (dT (Z4) : a1.toNat <= 281474976710656)) (Z31)) (bi _ _) (bj _) ?_; intro aJ w5 I hb hg_ hnew_; clear hg_ hnew_; (first | rw [← aA.out] at I | (simp only [Int.reduceToNat] at I; rw [← aA.out] at I)); have aK := aM (Kd.R_lower I (ct (Z0))); replace HB := aM (ae (Z0) hb); clear hb I))
 go_loopg [0, 6] k (fun kq v0 v6 w' => ∃ (y : Int) (x5_1 : List Int) (s : Int), v0 = .int .i64 y /\ v6 = .int .i64 s /\ ap (eq.l0 kq y x5_1 s = some r) /\ ap (kq <= k) /\ ap (Kd.R (Kd.int .u8) 5 w' w.heap.size (fun _ => True) aJ x5_1) /\ ap (Below w.heap.size w w'))
 case atStart => exact ⟨(a0), (Z), (wrap64 (a1 - 1)), (Z3), (Z3), H', ⟨bj _⟩, ⟨by (with_reducible repeat (first | apply Kd.R_alloc | apply Kd.R_drewN | apply Kd.R_drew)); exact aK.out⟩, ⟨Z0⟩⟩
 case round =>
  clear H'
  (try clear c3); (try clear aF); (try clear aG); (try clear c4); (try clear aH); (try clear aI)
  obtain ⟨y, x5_1, s, rfl, rfl, HA, HK1, HO_5, HB⟩ := hrel
  cases gk with
  | zero => exact absurd HA.out (by simp [eq.l0])
  | succ k1 =>
   have H := HA.out
   clear HA
   simp only [eq.l0] at H
   by_cases c7 : s ≥ 0
   ·rw [if_pos c7] at H
    have aO : decide (0 <= s) = true := az c7
    clear c7
    obtain ⟨c8, H⟩ := ifS H
    have aT := az c8
    clear c8
    obtain ⟨c9, H⟩ := ifS H
    have aU := az c9
    clear c9
    obtain ⟨M, J⟩ : ∃ y_ : List Int, y_ = (x5_1.set (s : Int).toNat ((y) % 256)) := ⟨_, rfl⟩
    replace H : (eq.l0 k1 (y / 256) M (wrap64 (s - 1))) = some r := by first | (rw [J]; with_reducible exact H) | (have H2_ := (Option.bind_some _ _).symm.trans H; rw [J]; with_reducible exact H2_) | (have H2_ := (Option.bind_some _ _).symm.trans H; with_reducible exact H2_) | with_reducible exact H | (rw [J]; exact H) | exact H
    have aP := aM J
    clear J
    have H' := aM H
    clear H
    have p10 : 0 <= (s : Int) := dT (Z4)
    have O : (s : Int) < ((x5_1.length : Int) : Int) := dT (Z4)
    obtain ⟨U, aQ, aC, aD, aR, aV, aE⟩ := Kd.R_form HO_5.out (Z31)
    (first | cases aC | (injection aC with ea_ en_ ec_; (first | subst ea_ | (injection ea_ with ea_; subst ea_)); subst ec_; clear en_))
    have aS := aM aD
    have aW := aM aE
    clear aD aR aE
    obtain ⟨aX, aY⟩ := Kd.R_celln 0 HO_5.out (s : Int) p10 O
    replace p10 := bh p10
    replace O := bh O
    have X := Kd.R_putg HO_5.out (s : Int) ((y) % 256)
    go_wp2_with (first | ((with_reducible refine gate_store (t := 5) (p := 19) rfl ?_); refine store_event (t := 5) (p := 19) (v := ?vo_w12) (w1 := (wr.setCell ⟨U, (s : Int).toNat, none⟩ (.int .u8 ((y) % 256)))) ?hg ?ho ?hn ?hr ?_; (case ho => rfl); (case hg => rfl); (case hn => rfl); (case hr => first | (go_simp; done) | (go_simp; rfl)); intro Y hw; have hg : wr.grownBy Y (some U) := (by rw [hw]; exact X.2); have hp_ : Kd.R (Kd.int .u8) 5 Y w.heap.size (fun _ => True) (.slice (some ⟨U, 0, none⟩) x5_1.length aQ) M := (by rw [hw, aP.out]; exact X.1); clear X; replace HO_5 := aM (hp_); replace HB := aM ((by rw [hw]; exact aa (HB.out) aS.out : Below w.heap.size w Y)); clear hg hw hp_))
    go_roundg k1
    case measure => have := HK1.out; omega
    case rel => exact ⟨(y / 256), (M), (wrap64 (s - 1)), (Z3), (Z3), H', ⟨Z85⟩, ⟨Z66⟩, ⟨Z0⟩⟩
   rw [if_neg c7] at H
   have aO : decide (0 <= s) = false := ba c7
   clear c7
   obtain rfl := oI H
   have aZ := own_string (P := prog) underlying74 underlying5 underlying9 (Kd.own_of_R HO_5.out)
   go_wp2
   go_ret
   exact ⟨Z1, Z0⟩
abbrev IsB (B b : Nat) (l : List Int) (w : World) : Prop := Lib.IsBuilder 149 5 B b (nums .u8 l) w
def Oth (b : Nat) (w w' : World) : Prop := ∀ k cells t, w.heap[k]? = some (.cells cells t (0, 0)) -> t ≠ 5 -> k ≠ b -> w'.heap[k]? = w.heap[k]?
theorem Oth.refl (b : Nat) (w : World) : Oth b w w := fun _ _ _ _ _ _ => rfl
theorem Oth.trans {b : Nat} {w w1 w2 : World} (h : Oth b w w1) (k : Oth b w1 w2) : Oth b w w2 := fun i cs t hc ht hi => (k i cs t ((h i cs t hc ht hi).trans hc) ht hi).trans (h i cs t hc ht hi)
theorem Oth.set {b : Nat} {w w1 : World} (h : Oth b w w1) (j : Nat) (u : Value) : Oth b w (w1.setCell ⟨b, j, none⟩ u) := fun i cs t hc ht hi => (Below.heap_setCell w1 ⟨b, j, none⟩ u i hi).trans (h i cs t hc ht hi)
theorem Oth.grown {b B n : Nat} {w w1 : World} {v : Value} {xs : List Value} (hg : w.grownBy w1 v.ownBlock) (hown : w.ownsRow B 5 1 v n xs) : Oth b w w1 := fun i cs t hc ht hi => by
 have hlt : i < w.heap.size := by
  rcases Nat.lt_or_ge i w.heap.size with h | h
  ·exact h
  rw [Array.getElem?_eq_none h] at hc; cases hc
 refine hg.block i hlt fun e => ?_
 obtain ⟨cells, hcc⟩ := own_typed hown i e.symm
 rw [hc] at hcc
 injection hcc with hcc
 injection hcc with _ h2
 exact ht h2
theorem bl_copyCheck (B b : Nat) (l : List Value) (w : World) (h : Lib.IsBuilder 149 5 B b l w) :
  Calls prog 136 #[bldPtr b] w fun e w' => e = .returned (.tuple #[]) /\ Lib.BuilderAt 149 5 B b (bldPtr b) l w' /\ Below B w w' /\ Oth b w w' := by
 obtain ⟨j, hj, hjs⟩ := Option.map_eq_some_iff.1 bld_info
 rcases h with h | h
 ·have s := h.cell0
  have hsh := h.shape
  have hfz := h.frozen0
  go_enter func136, ntmps136
  go_wp2
  rw [Lib.run_to_unsafe w ⟨b, 0, none⟩ underlying147 underlying162 hj (by rw [hjs]; decide) hsh (Nat.zero_lt_succ 1)]
  simp only [Result.andThen]
  rw [Oper.upon_value]
  go_wp2
  rw [run_callFunc_extern func137 (Z16) (Z16) (Z16) (e := Extern.AbiNoEscape.same) (Z16)]
  rw [Lib.run_noEscape]
  simp only [Result.andThen]
  rw [Oper.upon_value]
  go_wp2
  rw [Lib.run_from_unsafe w ⟨b, 0, none⟩ underlying162 underlying147 hj hsh bld_lies]
  simp only [Result.andThen]
  rw [Oper.upon_value]
  go_wp2
  go_end0
  exact ⟨rfl, h.used _, (bi B w).setCell (p := ⟨b, 0, none⟩) h.1 _, (Oth.refl b w).set 0 _⟩
 have s := h.cell0
 go_enter func136, ntmps136
 go_wp2
 rw [Lib.run_neq_ptr_same w _ underlying147 hj]
 go_wp2
 go_end0
 exact ⟨rfl, h, bi B _, Oth.refl b _⟩
theorem bl_WriteString (B b : Nat) (l : List Int) (y : ByteArray) (w : World) (h : IsB B b l w) (hlen : l.length + y.size <= 140737488355328) (hBw : B <= w.heap.size) :
  Calls prog 128 #[bldPtr b, .string y] w fun e w' => e = .returned (.tuple #[.int .i64 y.size, .nilIface]) /\ IsB B b (l ++ bytesOf y) w' /\ Below B w w' /\ Oth b w w' := by
 obtain ⟨i0, hi, I, J, M⟩ := info_parts info_u8
 go_enter func128, ntmps128
 go_wp2_with fail
 refine (bl_copyCheck B b _ _ h).mono ?_
 rintro e w1 ⟨rfl, ⟨hB, v, hbk, hown, hne⟩, D, O⟩
 have hz := D.size
 have c0 : w1.cell? ⟨b, 0, none⟩ = some (bldPtr b) := by rw [Lib.cell_of_heap hbk]; rfl
 have c1 : w1.cell? ⟨b, 1, none⟩ = some v := by rw [Lib.cell_of_heap hbk]; rfl
 have hlb : (nums .u8 l).length = l.length := by simp [nums]
 go_wp2_with (at_builtin; refine Lib.wpList_append_own_string _ rfl _ _ 74 9 rfl B 5 i0 underlying74 underlying9 hi I J M _ _ _ rfl hown y rfl ?c3 ?c4 ?c5 ?_)
 case c3 => rw [hlb]; unfold maxLen; omega
 case c4 => rw [hlb]; omega
 case c5 => omega
 intro v' w2 hown' hgrow _
 have hlt : b < w1.heap.size := World.block_lt_of_cell? _ _ c0
 have s : w2.heap[b]? = some (.cells #[bldPtr b, v] 149 (0, 0)) := by
  rw [hgrow.block b hlt (fun e => hne e.symm)]; exact hbk
 have U : w2.cell? ⟨b, 0, none⟩ = some (bldPtr b) := by rw [Lib.cell_of_heap s]; rfl
 have X : w2.cell? ⟨b, 1, none⟩ = some v := by rw [Lib.cell_of_heap s]; rfl
 have f1 : w2.frozen? ⟨b, 1, none⟩ = false := Lib.frozen_of_heap s 1
 have hOt := O.trans (Oth.grown (b := b) hgrow hown)
 obtain ⟨ao, cap, rfl⟩ := own_form hown'
 go_wp2
 go_ret2
 refine ⟨rfl, .inr ?_, (D.grown hgrow (Z31) (fun k hk => (hown.lt k hk).1)).setCell (p := ⟨b, 1, none⟩) hB _, hOt.set 1 _⟩
 refine Lib.BuilderAt.put (T := 149) (e := 5) hB s (bs' := nums .u8 (l ++ bytesOf y)) ?_ (Z68)
 have hc : nums .u8 (l ++ bytesOf y) = nums .u8 l ++ Lib.strCells y := by
  rw [nums_append]
  congr 1
  simp [nums, bytesOf, Lib.strCells]
 rw [hc]
 simpa [Lib.strCells_length, hlb] using hown'
theorem bl_WriteByte (B b : Nat) (l : List Int) (c : Int) (w : World) (h : IsB B b l w) (hlen : l.length + 1 <= 140737488355328) (hBw : B <= w.heap.size) :
  Calls prog 127 #[bldPtr b, .int .u8 c] w fun e w' => e = .returned .nilIface /\ IsB B b (l ++ [c]) w' /\ Below B w w' /\ Oth b w w' := by
 go_enter func127, ntmps127
 go_wp2_with fail
 refine (bl_copyCheck B b _ _ h).mono ?_
 rintro e w1 ⟨rfl, ⟨hB, v, hbk, hown, hne⟩, y, D⟩
 have hz := y.size
 have c0 : w1.cell? ⟨b, 0, none⟩ = some (bldPtr b) := by rw [Lib.cell_of_heap hbk]; rfl
 have c1 : w1.cell? ⟨b, 1, none⟩ = some v := by rw [Lib.cell_of_heap hbk]; rfl
 have hlb : (nums .u8 l).length = l.length := by simp [nums]
 have HO : Kd.R (Kd.int .u8) 5 w1 B (fun _ => True) v l := Kd.R_of_own (enc := Value.int .u8) (h1 := fun _ => rfl) (by rw [hlb] at hown; exact hown) (fun _ _ => trivial)
 go_wp2_with (at_builtin; refine Kd.R_append (Kd.int .u8) (w0 := w) B rfl (.tmp 11) (.tmp 13) 74 5 (.int .u8 0) 1 rfl underlying74 info5 rfl (Z68) (Z68) v l c [.int .u8 c] (fun _ => True) (fun _ => False) rfl rfl rfl (fun _ h => h.elim) (fun _ _ => trivial) HO y (Z31) (Z31) ?_)
 intro v' w2 hR' I hgrow _
 have hlt : b < w1.heap.size := World.block_lt_of_cell? _ _ c0
 have s : w2.heap[b]? = some (.cells #[bldPtr b, v] 149 (0, 0)) := by
  rw [hgrow.block b hlt (fun e => hne e.symm)]; exact hbk
 have J : w2.cell? ⟨b, 0, none⟩ = some (bldPtr b) := by rw [Lib.cell_of_heap s]; rfl
 have M : w2.cell? ⟨b, 1, none⟩ = some v := by rw [Lib.cell_of_heap s]; rfl
 have f1 : w2.frozen? ⟨b, 1, none⟩ = false := Lib.frozen_of_heap s 1
 have hOt := D.trans (Oth.grown (b := b) hgrow hown)
 have hown' := Kd.own_of_R hR'
 obtain ⟨ao, cap, rfl⟩ := Kd.R_slice hR'
 go_wp2
 go_ret
 refine ⟨rfl, .inr ?_, I.setCell (p := ⟨b, 1, none⟩) hB _, hOt.set 1 _⟩
 refine Lib.BuilderAt.put (T := 149) (e := 5) hB s (bs' := nums .u8 (l ++ [c])) ?_ (Z68)
 have hc : (nums .u8 (l ++ [c])).length = (l ++ [c]).length := by simp [nums]
 rw [hc]
 simpa [nums, encs] using hown'
theorem bl_String (B b : Nat) (l : List Int) (w : World) (h : IsB B b l w) (hl : ∀ x ∈ l, 0 <= x /\ x < 256) (hBw : B <= w.heap.size) :
  Calls prog 129 #[bldPtr b] w fun e w' => e = .returned (.string (strOfNums l)) /\ Below B w w' := by
 have e : Lib.byteCells (l.map fun n => UInt8.ofNat n.toNat) = nums .u8 l := by
  unfold Lib.byteCells nums
  rw [List.map_map]
  refine List.map_congr_left fun x hx => ?_
  have := hl x hx
  simp only [Function.comp]
  congr 1
  simp [UInt8.toNat_ofNat']
  omega
 exact Tryz.Builder_String_any B b (l.map fun n => UInt8.ofNat n.toNat) w (by rw [e]; exact h) hBw
theorem bytesOf_app (a b : ByteArray) : bytesOf (a ++ b) = bytesOf a ++ bytesOf b := by simp [bytesOf]
theorem bytesOf_strOfNums (l : List Int) (h : ∀ x ∈ l, 0 <= x /\ x < 256) : bytesOf (strOfNums l) = l := by
 unfold bytesOf strOfNums
 simp only [List.map_map]
 conv => rhs; rw [← List.map_id l]
 refine List.map_congr_left fun x hx => ?_
 have := h x hx
 simp [UInt8.toNat_ofNat']
 omega
theorem be2_in (n : Int) (s : 0 <= n) (h1 : n < 65536) : ∀ x ∈ be2 n, 0 <= x /\ x < 256 := by
 intro x hx
 simp only [be2, List.mem_cons, List.not_mem_nil, or_false] at hx
 rcases hx with rfl | rfl <;> omega
theorem bytesOf_in (t : ByteArray) : ∀ x ∈ bytesOf t, 0 <= x /\ x < 256 := by
 intro x hx
 simp only [bytesOf, List.mem_map] at hx
 obtain ⟨b, _, rfl⟩ := hx
 have := b.toNat_lt
 omega
theorem headL_in {kind uid mode flags : Int} {nm : ByteArray} {l : List S84} (h : MutIn kind uid mode flags nm l) : ∀ x ∈ headL kind uid mode flags nm l.length, 0 <= x /\ x < 256 := by
 obtain ⟨y, D, s, b3, b4, b5, I, J, M, O, -⟩ := h
 intro x hx
 simp only [headL, List.mem_append] at hx
 rcases hx with (hx | hx) | hx
 ·simp only [List.mem_cons, List.not_mem_nil, or_false] at hx
  rcases hx with rfl | rfl | rfl | rfl | rfl <;> omega
 ·exact be2_in uid s b3 x hx
 exact bytesOf_in nm x hx
theorem itemL_in (q : S84) (h : q.f0.size < 65536 /\ q.f1.size < 65536) : ∀ x ∈ itemL q, 0 <= x /\ x < 256 := by
 intro x hx
 simp only [itemL, List.mem_append] at hx
 rcases hx with ((hx | hx) | hx) | hx
 ·exact be2_in _ (Z31) (Z31) x hx
 ·exact be2_in _ (Z31) (Z31) x hx
 ·exact bytesOf_in _ x hx
 exact bytesOf_in _ x hx
theorem mutBytesL_in {kind uid mode flags : Int} {nm : ByteArray} {l : List S84} (h : MutIn kind uid mode flags nm l) : ∀ x ∈ mutBytesL kind uid mode flags nm l, 0 <= x /\ x < 256 := by
 intro x hx
 simp only [mutBytesL, List.mem_append, List.mem_flatMap] at hx
 rcases hx with hx | ⟨q, hq, hx⟩
 ·exact headL_in h x hx
 exact itemL_in q (h.2.2.2.2.2.2.2.2.2.2 q hq) x hx
theorem inBytes_two (n : Int) (s : 0 <= n) (h1 : n < 65536) : eq.f 4 n 2 = some (strOfNums (be2 n)) := by
 have w1 : wrap64 (2 - 1) = 1 := by kernel_rfl
 have w0 : wrap64 (1 - 1) = 0 := by kernel_rfl
 have w2 : wrap64 (0 - 1) = -1 := by kernel_rfl
 have e : n / 256 % 256 = n / 256 := by omega
 unfold eq.f
 simp only [w1]
 simp only [eq.l0, w0, w2]
 simp [be2, e, List.replicate]
theorem inBytes_text (n : Int) (s : 0 <= n) (h1 : n < 65536) : ∃ t, eq.f 4 n 2 = some t /\ t.size = 2 /\ bytesOf t = be2 n :=
 ⟨_, inBytes_two n s h1, by simp [be2, strOfNums, ByteArray.size], bytesOf_strOfNums _ (be2_in n s h1)⟩
theorem ib_below {B b : Nat} {l : List Int} {w w' : World} (h : IsB B b l w) (k : Below w.heap.size w w') : IsB B b l w' := by
 have one : ∀ p, Lib.BuilderAt 149 5 B b p (nums .u8 l) w -> Lib.BuilderAt 149 5 B b p (nums .u8 l) w' := by
  rintro p ⟨hB, v, hb, hown, hne⟩
  exact ⟨hB, v, ai hb k, own_move hown (fun i hi => k.block i (own_lt hown i hi)), hne⟩
 exact h.imp (one _) (one _)
theorem ib_drew {B b : Nat} {l : List Int} {w : World} (h : IsB B b l w) : IsB B b l w.drew := ib_below h (ac (bi _ _))
def impl_mutationBytes.f (kind uid mode flags : Int) (nm : ByteArray) (l : List S84) : Option ByteArray := if MutIn kind uid mode flags nm l then some (strOfNums (mutBytesL kind uid mode flags nm l)) else none
theorem impl_mutationBytes.calls (kind uid mode flags : Int) (nm : ByteArray) (A : Option Addr) (c : Nat) (l : List S84) (r : ByteArray) (w : World) (hr0 : Kd.C k84 w A l.length l) (a5 : l.length <= c) (h : impl_mutationBytes.f kind uid mode flags nm l = some r) :
  Calls prog 104 #[.agg #[.int .i64 kind, .int .i64 uid, .int .i64 mode, .int .i64 flags, .string nm, .slice A l.length c]] w fun e w' => e = .returned (.string r) /\ Below w.heap.size w w' := by
 unfold impl_mutationBytes.f at h
 split at h
 case isFalse => cases h
 rename_i hin
 obtain rfl := Option.some.inj h
 have HM := aM hin
 obtain ⟨b0, b1, b2, b3, b4, b5, b6, b7, b8, b9, -⟩ := hin
 have HR := aM hr0
 obtain ⟨t, aJ, hts, htb⟩ := inBytes_text uid b2 b3
 have hq := aM aJ
 have HT := aM htb
 have hcat : (9223372036854775807 < t.size + nm.size) = False := eq_false (Z31)
 clear aJ htb
 clear h hr0
 go_enter func104, ntmps104
 go_upto_region 3 with (fail)
 have HB := aM (ab (ab (ab (bi w.heap.size w) (.cells #[.int .i64 kind, .int .i64 uid, .int .i64 mode, .int .i64 flags, .string nm, .slice A l.length c] 41)) (.cells #[.pointer none, .slice none 0 0] 149)) (.cells #[.int .i64 kind, .int .i64 mode, .int .i64 flags, .int .i64 (l.length : Int), .int .i64 (nm.size : Int)] 3))
 have BX := aM (ah (ah (show (w.alloc (.cells #[.int .i64 kind, .int .i64 uid, .int .i64 mode, .int .i64 flags, .string nm, .slice A l.length c] 41)).heap[w.heap.size]? = some (.cells #[.int .i64 kind, .int .i64 uid, .int .i64 mode, .int .i64 flags, .string nm, .slice A l.length c] 41 (0, 0)) from by simpa using heap_alloc_new w _) (.cells #[.pointer none, .slice none 0 0] 149)) (.cells #[.int .i64 kind, .int .i64 mode, .int .i64 flags, .int .i64 (l.length : Int), .int .i64 (nm.size : Int)] 3))
 have HI0 : IsB (w.heap.size + 1) (w.heap.size + 1) [] ((w.alloc (.cells #[.int .i64 kind, .int .i64 uid, .int .i64 mode, .int .i64 flags, .string nm, .slice A l.length c] 41)).alloc (.cells #[.pointer none, .slice none 0 0] 149)) := by
  have := bld_new (w.heap.size + 1) (w.alloc (.cells #[.int .i64 kind, .int .i64 uid, .int .i64 mode, .int .i64 flags, .string nm, .slice A l.length c] 41)) (fg)
  have e : (w.alloc (.cells #[.int .i64 kind, .int .i64 uid, .int .i64 mode, .int .i64 flags, .string nm, .slice A l.length c] 41)).heap.size = w.heap.size + 1 := by simp
  rw [e] at this
  exact this
 have HI : ap (IsB (w.heap.size + 1) (w.heap.size + 1) [] _) := aM (IsBld.below (l := []) HI0 (ab (bi _ _) (.cells #[.int .i64 kind, .int .i64 mode, .int .i64 flags, .int .i64 (l.length : Int), .int .i64 (nm.size : Int)] 3)))
 have AX := aM (show (((w.alloc (.cells #[.int .i64 kind, .int .i64 uid, .int .i64 mode, .int .i64 flags, .string nm, .slice A l.length c] 41)).alloc (.cells #[.pointer none, .slice none 0 0] 149)).alloc (.cells #[.int .i64 kind, .int .i64 mode, .int .i64 flags, .int .i64 (l.length : Int), .int .i64 (nm.size : Int)] 3)).heap[w.heap.size + 1 + 1]? = some (.cells #[.int .i64 kind, .int .i64 mode, .int .i64 flags, .int .i64 (l.length : Int), .int .i64 (nm.size : Int)] 3 (0, 0)) from by simpa using heap_alloc_new ((w.alloc (.cells #[.int .i64 kind, .int .i64 uid, .int .i64 mode, .int .i64 flags, .string nm, .slice A l.length c] 41)).alloc (.cells #[.pointer none, .slice none 0 0] 149)) _)
 have HS := aM (show w.heap.size + 1 < (((w.alloc (.cells #[.int .i64 kind, .int .i64 uid, .int .i64 mode, .int .i64 flags, .string nm, .slice A l.length c] 41)).alloc (.cells #[.pointer none, .slice none 0 0] 149)).alloc (.cells #[.int .i64 kind, .int .i64 mode, .int .i64 flags, .int .i64 (l.length : Int), .int .i64 (nm.size : Int)] 3)).heap.size from by simp)
 clear HI0
 generalize ((w.alloc (.cells #[.int .i64 kind, .int .i64 uid, .int .i64 mode, .int .i64 flags, .string nm, .slice A l.length c] 41)).alloc (.cells #[.pointer none, .slice none 0 0] 149)).alloc (.cells #[.int .i64 kind, .int .i64 mode, .int .i64 flags, .int .i64 (l.length : Int), .int .i64 (nm.size : Int)] 3) = W1 at HB BX HI AX HS ⊢
 go_loopg [5, 23] 5 (fun gg s5 aV wr => ∃ (kk : Nat), kk <= 5 /\ 5 - kk <= gg /\ aV = .int .i64 kk /\ ap (IsB (w.heap.size + 1) (w.heap.size + 1) ([kind, mode, flags, (l.length : Int), (nm.size : Int)].take kk) wr) /\ ap (Below (w.heap.size + 1) W1 wr) /\ ap (Oth (w.heap.size + 1) W1 wr))
 case atStart => exact ⟨0, Nat.zero_le _, Z31, rfl, HI, ⟨bi _ _⟩, ⟨Oth.refl _ _⟩⟩
 case round =>
  obtain ⟨kk, hkk, hgg, rfl, I, BB, O⟩ := hrel
  clear HI
  by_cases hlt : kk < 5
  ·have h0 : 0 <= (kk : Int) := by omega
   have h5 : (kk : Int) < 5 := by omega
   have hcell := aM ((O.out _ _ _ AX.out (Z68) (Z31)).trans AX.out)
   have hle : kk < [kind, mode, flags, (l.length : Int), (nm.size : Int)].length := by simpa using hlt
   obtain ⟨v, hv⟩ : ∃ v, [kind, mode, flags, (l.length : Int), (nm.size : Int)][kk] = v := ⟨_, rfl⟩
   have z : wr.cell? ⟨w.heap.size + 1 + 1, kk, none⟩ = some (.int .i64 v) := (al hcell.out kk).trans (by
    rw [← hv]
    rcases (by omega : kk = 0 ∨ kk = 1 ∨ kk = 2 ∨ kk = 3 ∨ kk = 4) with rfl | rfl | rfl | rfl | rfl <;> rfl)
   have bE : v % 256 = v := by
    rw [← hv]
    rcases (by omega : kk = 0 ∨ kk = 1 ∨ kk = 2 ∨ kk = 3 ∨ kk = 4) with rfl | rfl | rfl | rfl | rfl <;> simp <;> omega
   have hnext := aM (show [kind, mode, flags, (l.length : Int), (nm.size : Int)].take (kk + 1) = [kind, mode, flags, (l.length : Int), (nm.size : Int)].take kk ++ [v] by rw [← hv, List.take_succ_eq_append_getElem hle])
   clear hv
   go_wp2_with fail
   refine (bl_WriteByte _ _ _ v _ I.out (by simp; omega) (Nat.le_trans (Nat.le_of_lt HS.out) BB.out.size)).mono ?_
   rintro e w2 ⟨rfl, aW, aX, aY⟩
   go_wp2
   go_roundg (5 - (kk + 1))
   case measure => omega
   case rel => exact ⟨kk + 1, Z31, Z31, by go_num, ⟨by rw [hnext.out]; exact aW⟩, ⟨Below.trans BB.out aX⟩, ⟨O.out.trans aY⟩⟩
  obtain rfl : kk = 5 := by omega
  have hfull : [kind, mode, flags, (l.length : Int), (nm.size : Int)].take 5 = [kind, mode, flags, (l.length : Int), (nm.size : Int)] := rfl
  rw [hfull] at I
  have X := aM ((BB.out.block _ (Z31)).trans BX.out)
  have Y := aM (Below.trans HB.out (BB.out.mono (Z31)))
  have Z := aM (Nat.lt_of_lt_of_le HS.out BB.out.size)
  clear hfull BX HB HS BB O AX
  have hcp : (9223372036854775807 < 2 + nm.size) = False := eq_false (by omega)
  go_upto_region 7 with (fail)
  go_region_held3 (fun W => W.cell? ⟨w.heap.size, 1, none⟩ = some (.int .i64 uid) /\ W.cell? ⟨w.heap.size, 4, none⟩ = some (.string nm))
   (first | exact ⟨(al aA.out 1).trans rfl, (al aA.out 4).trans rfl⟩ | exact ⟨(al aB.out 1).trans rfl, (al aB.out 4).trans rfl⟩ | exact ⟨(al (by repeat (first | exact X.out | (with_reducible refine ag ?_))) 1).trans rfl, (al (by repeat (first | exact X.out | (with_reducible refine ag ?_))) 4).trans rfl⟩ | go_keep)
   (first
    | (go_at_call 119; refine (eq.calls 4 uid 2 t _ hq.out).mono ?_; rintro e w3 ⟨rfl, hb⟩; have aB := aM (ai (by repeat (first | exact X.out | (with_reducible refine ag ?_))) hb); have HB2 := aM (ae (by repeat (first | exact Y.out | apply ac)) hb); have M := aM (ib_below (ib_drew I.out) hb); have y := aM (Nat.lt_of_lt_of_le Z.out (by have := hb.size; simpa using this)); clear hb)
    | (go_at_call 128; refine (bl_WriteString _ _ _ (t ++ nm) _ M.out ?_ (Nat.le_of_lt y.out)).mono ?_; (focus (simp; omega)); rintro e w4 ⟨rfl, U, s, aC⟩; have aA := aM ((s.block _ (Nat.lt_succ_self _)).trans aB.out); have aD := aM (Below.trans HB2.out (s.mono (Nat.le_succ _))); have I3 := aM U; have aF := aM (Nat.lt_of_lt_of_le y.out s.size); clear U s aC))
  have I4 := aM (show IsB (w.heap.size + 1) (w.heap.size + 1) (headL kind uid mode flags nm l.length) w4 from by have := I3.out; rw [bytesOf_app, HT.out, ← List.append_assoc] at this; exact this)
  obtain ⟨-, -, -, -, -, z5⟩ := cl6 aA.out
  clear I M I3 X aB Y HB2 Z y hq HT hcat hts
  go_wp2
  clear z5
  go_loopg [7, 41] l.length (fun gg s7 aZ wr => ∃ (kk : Nat), kk <= l.length /\ l.length - kk <= gg /\ aZ = .int .i64 kk /\ ap (IsB (w.heap.size + 1) (w.heap.size + 1) (headL kind uid mode flags nm l.length ++ (l.take kk).flatMap itemL) wr) /\ ap (Below w.heap.size w wr) /\ ap (w.heap.size + 1 < wr.heap.size))
  case atStart => exact ⟨0, Nat.zero_le _, Z31, rfl, ⟨by simpa using I4.out⟩, aD, aF⟩
  case round =>
   obtain ⟨kk, hkk, hgg, rfl, I, HB, HS⟩ := hrel
   clear I4 aD aF aA
   by_cases hlt : kk < l.length
   ·have hltz : (kk : Int) < (l.length : Int) := by omega
    have h0 : 0 <= (kk : Int) := by omega
    obtain ⟨ad, e, aG, hx1⟩ := at_T84 (Kd.C_below HR.out HB.out) kk h0 hltz
    cases e
    simp only [Int.toNat_natCast] at aG hx1
    have hel : ay l (kk : Int) = l[kk] := by unfold ay; simp [List.getD, List.getElem?_eq_getElem hlt]
    have hsz := HM.out.2.2.2.2.2.2.2.2.2.2 l[kk] (List.getElem_mem hlt)
    have hlen : (headL kind uid mode flags nm l.length ++ (l.take kk).flatMap itemL).length <= 4294967296 := by
     have h1 := items_length (l.take kk) fun x hx => HM.out.2.2.2.2.2.2.2.2.2.2 x (List.mem_of_mem_take hx)
     have h2 : (l.take kk).length <= 255 := by rw [List.length_take]; omega
     rw [List.length_append, headL_length]
     omega
    have hnext : headL kind uid mode flags nm l.length ++ (l.take (kk + 1)).flatMap itemL = (headL kind uid mode flags nm l.length ++ (l.take kk).flatMap itemL) ++ itemL l[kk] := by
     rw [List.take_succ_eq_append_getElem hlt, List.flatMap_append, List.append_assoc]; simp
    rw [hel] at aG hx1
    generalize l[kk] = q at hsz hnext aG hx1
    have HN := aM hnext
    generalize headL kind uid mode flags nm l.length ++ (l.take kk).flatMap itemL = ys at I hlen HN
    clear hnext hel
    obtain ⟨D, hA, bG, aN⟩ := inBytes_text q.f0.size (Z31) (Z31)
    obtain ⟨J, hE, bH, aO⟩ := inBytes_text q.f1.size (Z31) (Z31)
    have HA := aM hA
    have HE := aM hE
    have HT := aM (show bytesOf (D ++ J ++ q.f0 ++ q.f1) = itemL q by rw [bytesOf_app, bytesOf_app, bytesOf_app, aN, aO]; rfl)
    have bI : (9223372036854775807 < D.size + J.size) = False := eq_false (Z31)
    have bJ : (9223372036854775807 < D.size + J.size + q.f0.size) = False := eq_false (Z31)
    have bK : (9223372036854775807 < D.size + J.size + q.f0.size + q.f1.size) = False := eq_false (Z31)
    clear hA aN hE aO
    have hcr : (9223372036854775807 < 2 + 2 + q.f0.size) = False := eq_false (by omega)
    have hcs : (9223372036854775807 < 2 + 2 + q.f0.size + q.f1.size) = False := eq_false (by omega)
    have hct : (9223372036854775807 < 4 + q.f0.size) = False := eq_false (by omega)
    have hcu : (9223372036854775807 < 4 + q.f0.size + q.f1.size) = False := eq_false (by omega)
    go_upto_region 11 with (fail)
    have I0 := aM (ib_below I.out (ab (bi _ _) (.cells #[.string q.f0, .string q.f1] 84)))
    have aQ := aM (ab HB.out (.cells #[.string q.f0, .string q.f1] 84))
    have aR := aM (show w.heap.size + 1 < (wr.alloc (.cells #[.string q.f0, .string q.f1] 84)).heap.size from Nat.lt_of_lt_of_le HS.out (fg))
    have hg := HS.out
    have XB0 := aM (show (wr.alloc (.cells #[.string q.f0, .string q.f1] 84)).heap[wr.heap.size]? = some (.cells #[.string q.f0, .string q.f1] 84 (0, 0)) from by simpa using heap_alloc_new wr _)
    clear aG hx1
    generalize wr.alloc (.cells #[.string q.f0, .string q.f1] 84) = W2 at I0 aQ aR XB0 ⊢
    generalize wr.heap.size = g at XB0 hg ⊢
    have HG := aM hg
    clear hg
    go_region_held3 (fun W => W.cell? ⟨g, 0, none⟩ = some (.string q.f0) /\ W.cell? ⟨g, 1, none⟩ = some (.string q.f1))
     (first | exact ⟨(al aS.out 0).trans rfl, (al aS.out 1).trans rfl⟩ | exact ⟨(al aH.out 0).trans rfl, (al aH.out 1).trans rfl⟩ | exact ⟨(al aI.out 0).trans rfl, (al aI.out 1).trans rfl⟩ | exact ⟨(al (Z168) 0).trans rfl, (al (Z168) 1).trans rfl⟩ | trivial | go_keep)
     (first
      | (have I2_ := M; go_at_call 128; refine (bl_WriteString _ _ _ (D ++ J ++ q.f0 ++ q.f1) _ M.out ?_ (Nat.le_of_lt y.out)).mono ?_; (focus (simp; omega)); rintro e w8 ⟨rfl, U, s, aC⟩; have aS := aM ((aC _ _ _ aH.out (Z68) (by have := HG.out; omega)).trans aH.out); have aD := aM (Below.trans HB2.out (s.mono (Nat.le_succ _))); have I3 := aM U; have aF := aM (Nat.lt_of_lt_of_le y.out s.size); clear U s aC I2_)
      | (have I1_ := I1; go_at_call 119; refine (eq.calls 4 q.f1.size 2 J _ HE.out).mono ?_; rintro e w7 ⟨rfl, hb⟩; have aH := aM (ai aI.out hb); have HB2 := aM (ae Y.out hb); have M := aM (ib_below I1.out hb); have y := aM (Nat.lt_of_lt_of_le Z.out hb.size); clear hb I1_)
      | (go_at_call 119; refine (eq.calls 4 q.f0.size 2 D _ HA.out).mono ?_; rintro e w6 ⟨rfl, hb⟩; have aI := aM (ai (Z168) hb); have Y := aM (ae (by repeat (first | exact aQ.out | apply ac)) hb); have I1 := aM (ib_below (ib_drew I0.out) hb); have Z := aM (Nat.lt_of_lt_of_le aR.out (by have := hb.size; simpa using this)); clear hb))
    go_wp2
    go_roundg (l.length - (kk + 1))
    case measure => omega
    case rel => exact ⟨kk + 1, Z31, Z31, by go_num, ⟨by rw [HN.out, ← HT.out]; exact I3.out⟩, aD, aF⟩
   obtain rfl : kk = l.length := by omega
   have hltz : ¬ (l.length : Int) < (l.length : Int) := by omega
   have I5 := aM (show IsB (w.heap.size + 1) (w.heap.size + 1) (mutBytesL kind uid mode flags nm l) wr from by simpa [mutBytesL] using I.out)
   go_wp2_with fail
   refine (bl_String _ _ _ _ I5.out (mutBytesL_in HM.out) (Nat.le_of_lt HS.out)).mono ?_
   rintro e w9 ⟨rfl, a3⟩
   go_wp2
   go_ret
   exact ⟨rfl, Below.trans HB.out (a3.mono (Nat.le_succ _))⟩
def impl_Log_hasRoom.f (s : Int) (y : ByteArray) (D : Int) (a1 : ByteArray) : Option (Bool) := some (decide ((wrap64 ((wrap64 ((y.size : Int) + 7)) + (a1.size : Int))) <= s))
theorem impl_Log_hasRoom.calls (s : Int) (y : ByteArray) (D : Int) (a1 : ByteArray) (r : Bool) (w : World) (h : impl_Log_hasRoom.f s y D a1 = some r) :
  Calls prog 105 #[.agg #[.int .i64 s, .string y, .int .i64 D], .string a1] w fun e w' => e = .returned (.bool r) /\ Below w.heap.size w w' := by
 have M := underlying32
 have HB := aM (bi w.heap.size w)
 have H := h
 clear h
 unfold impl_Log_hasRoom.f at H
 obtain rfl := oI H
 go_enter func105, ntmps105
 go_wp2_with (first | ((with_reducible refine gD 2 ?_); refine bxF w 2 #[.int .i64 s, .string y, .int .i64 D] 32 (Z0) ?_; intro O hg w3 I U J HB hb; clear hb hg; refine bD3 I ?_; intros))
 go_ret
 exact ⟨Z1, by repeat (first | (with_reducible first | exact HB.out | apply ab | apply af | apply ac | refine aa ?_ J.out) | exact HB.out)⟩
def impl_room (s0 : Int) (s1 : ByteArray) (s2 : Int) (kind uid mode flags : Int) (nm : ByteArray) (l : List S84) : Option (ByteArray × Int) :=
 (impl_mutationBytes.f kind uid mode flags nm l).bind fun t => if 20000 < t.size then some (⟨#[]⟩, 7) else (impl_Log_hasRoom.f s0 s1 s2 t).bind fun b => if b = true then some (t, 0) else some (⟨#[]⟩, 7)
section
variable (g : Nat) (s0 : Int) (s1 : ByteArray) (s2 : Int) (v : Value) (kind uid mode flags : Int) (nm : ByteArray) (A : Option Addr) (c : Nat) (l : List S84) (w : World)
theorem i_room (r : ByteArray × Int) (hg : w.heap[g]? = some (.cells #[.int .i64 s0, .string s1, .int .i64 s2, v] 35 (0, 0))) (hC : Kd.C k84 w A l.length l) (hc : l.length <= c) (h : impl_room s0 s1 s2 kind uid mode flags nm l = some r) :
  Calls prog 57 #[.pointer (some ⟨g, 0, none⟩), .agg #[.int .i64 kind, .int .i64 uid, .int .i64 mode, .int .i64 flags, .string nm, .slice A l.length c]] w fun e w' => e = .returned (.tuple #[.string r.1, .int .i64 r.2]) /\ Below w.heap.size w w' := by
 unfold impl_room at h
 obtain ⟨t, ht, h⟩ := Option.bind_eq_some_iff.mp h
 have HT := aM ht
 have HC := aM (Kd.C_alloc hC (.cells #[.int .i64 kind, .int .i64 uid, .int .i64 mode, .int .i64 flags, .string nm, .slice A l.length c] 41))
 have GX := aM (ah hg (.cells #[.int .i64 kind, .int .i64 uid, .int .i64 mode, .int .i64 flags, .string nm, .slice A l.length c] 41))
 have HB := aM (ab (bi w.heap.size w) (.cells #[.int .i64 kind, .int .i64 uid, .int .i64 mode, .int .i64 flags, .string nm, .slice A l.length c] 41))
 clear ht hC hg
 go_enter func57, ntmps57
 go_wp2_with fail
 refine (impl_mutationBytes.calls kind uid mode flags nm A c l t _ HC.out hc HT.out).mono ?_
 rintro e w2 ⟨rfl, hb⟩
 have HB2 := aM (ae HB.out hb)
 have s := ai GX.out hb
 obtain ⟨z0, z1, z2⟩ := cl3 s
 clear HB GX hb s
 by_cases h1 : 20000 < t.size
 ·rw [if_pos h1] at h
  obtain rfl := Option.some.inj h
  have I : decide ((20000 : Int) < (t.size : Int)) = true := az (Z31)
  clear h1 h
  go_wp2
  go_ret2
  exact ⟨rfl, HB2.out⟩
 rw [if_neg h1] at h
 obtain ⟨b, hb, h⟩ := Option.bind_eq_some_iff.mp h
 have I : decide ((20000 : Int) < (t.size : Int)) = false := ba (Z31)
 have HH := aM hb
 clear h1 hb
 go_wp2_with fail
 refine (impl_Log_hasRoom.calls s0 s1 s2 t b _ HH.out).mono ?_
 rintro e w3 ⟨rfl, y⟩
 have D := aM (ae HB2.out y)
 clear z0 z1 z2 HB2 y
 cases b with
 | true =>
  obtain rfl := Option.some.inj h
  go_wp2
  go_ret2
  exact ⟨rfl, D.out⟩
 | false =>
  obtain rfl := Option.some.inj h
  go_wp2
  go_ret2
  exact ⟨rfl, D.out⟩
end
def impl_commit (k : Nat) (s0 : Int) (s1 : ByteArray) (s2 : Int) (bx : List S82) (kind uid mode flags : Int) (nm : ByteArray) (l : List S84) : Option (Int × ByteArray × Int × List S82 × Int) :=
 (dj.f k bx).bind fun cl => if cl.length <= 1048576 /\ (∀ b ∈ cl, b.f3.length <= 1048576 /\ b.f4.length <= 1048576) /\ l.length <= 1048576 then
  (if (gi cl kind uid mode flags nm l).2 ≠ 0 then some (s0, s1, s2, bx, (gi cl kind uid mode flags nm l).2) else
   (impl_room s0 s1 s2 kind uid mode flags nm l).bind fun t => if t.2 ≠ 0 then some (s0, s1, s2, bx, t.2) else
    (impl_Log_with.f s0 s1 s2 t.1).bind fun u => (impl_Log_sync.f u.1 u.2.1 u.2.2).bind fun v => some (v.1, v.2.1, v.2.2, (gi cl kind uid mode flags nm l).1, 0))
  else none
theorem i_commit (k g : Nat) (s0 : Int) (s1 : ByteArray) (s2 : Int) (v : Value) (bx : List S82) (kind uid mode flags : Int) (nm : ByteArray) (A : Option Addr) (c : Nat) (l : List S84) (w0 w : World) (r : Int × ByteArray × Int × List S82 × Int)
  (hg : w.heap[g]? = some (.cells #[.int .i64 s0, .string s1, .int .i64 s2, v] 35 (0, 0))) (hgw : w0.heap.size <= g) (hS : Kd.S k82 82 w w0.heap.size (fun _ => True) v bx) (hB : Below w0.heap.size w0 w) (hC : Kd.C k84 w0 A l.length l) (hc : l.length <= c) (h : impl_commit k s0 s1 s2 bx kind uid mode flags nm l = some r) :
  Calls prog 27 #[.pointer (some ⟨g, 0, none⟩), .agg #[.int .i64 kind, .int .i64 uid, .int .i64 mode, .int .i64 flags, .string nm, .slice A l.length c]] w fun e w' => ∃ v', e = .returned (.int .i64 r.2.2.2.2) /\ w'.heap[g]? = some (.cells #[.int .i64 r.1, .string r.2.1, .int .i64 r.2.2.1, v'] 35 (0, 0)) /\ Kd.S k82 82 w' w0.heap.size (fun _ => True) v' r.2.2.2.1 /\ Below w0.heap.size w0 w' := by
 unfold impl_commit at h
 obtain ⟨cl, hcl, h⟩ := Option.bind_eq_some_iff.mp h
 split at h
 case isFalse => cases h
 rename_i hin
 have HL := aM hcl
 have HI := aM hin
 obtain ⟨A3, c3, rfl⟩ := Kd.S_slice hS
 have HS := aM (Kd.S_alloc hS (.cells #[.int .i64 kind, .int .i64 uid, .int .i64 mode, .int .i64 flags, .string nm, .slice A l.length c] 41))
 have GX := aM (ah hg (.cells #[.int .i64 kind, .int .i64 uid, .int .i64 mode, .int .i64 flags, .string nm, .slice A l.length c] 41))
 have HB := aM (ab hB (.cells #[.int .i64 kind, .int .i64 uid, .int .i64 mode, .int .i64 flags, .string nm, .slice A l.length c] 41))
 have BX := aM (show (w.alloc (.cells #[.int .i64 kind, .int .i64 uid, .int .i64 mode, .int .i64 flags, .string nm, .slice A l.length c] 41)).heap[w.heap.size]? = some (.cells #[.int .i64 kind, .int .i64 uid, .int .i64 mode, .int .i64 flags, .string nm, .slice A l.length c] 41 (0, 0)) from by simpa using heap_alloc_new w _)
 have HC := aM hC
 clear hcl hin hS hg hB hC
 go_enter func27, ntmps27
 go_upto_region 1 with (fail)
 generalize w.alloc (.cells #[.int .i64 kind, .int .i64 uid, .int .i64 mode, .int .i64 flags, .string nm, .slice A l.length c] 41) = W1 at HS GX HB BX ⊢
 generalize w.heap.size = x0 at BX ⊢
 obtain ⟨-, -, -, z3⟩ := cl4 GX.out
 go_region_held3 (fun W => W.cell? ⟨x0, 0, none⟩ = some (.int .i64 kind) /\ W.cell? ⟨x0, 1, none⟩ = some (.int .i64 uid) /\ W.cell? ⟨x0, 2, none⟩ = some (.int .i64 mode) /\ W.cell? ⟨x0, 3, none⟩ = some (.int .i64 flags) /\ W.cell? ⟨x0, 4, none⟩ = some (.string nm) /\ W.cell? ⟨x0, 5, none⟩ = some (.slice A l.length c) /\ W.cell? ⟨g, 3, none⟩ = some (.slice A3 bx.length c3))
  (first
   | exact ⟨(al U.out 0).trans rfl, (al U.out 1).trans rfl, (al U.out 2).trans rfl, (al U.out 3).trans rfl, (al U.out 4).trans rfl, (al U.out 5).trans rfl, (al aB.out 3).trans rfl⟩
   | exact ⟨(al y.out 0).trans rfl, (al y.out 1).trans rfl, (al y.out 2).trans rfl, (al y.out 3).trans rfl, (al y.out 4).trans rfl, (al y.out 5).trans rfl, (al aG.out 3).trans rfl⟩
   | exact ⟨(al (ag BX.out) 0).trans rfl, (al (ag BX.out) 1).trans rfl, (al (ag BX.out) 2).trans rfl, (al (ag BX.out) 3).trans rfl, (al (ag BX.out) 4).trans rfl, (al (ag BX.out) 5).trans rfl, (al (ag GX.out) 3).trans rfl⟩
   | go_keep)
  (first
   | (have BX2_ := y; go_at_call 56; refine (i_mutate s (fun q => s <= q) _ cl kind uid mode flags nm A c l _ aR.out aL.out (fun q hq => Nat.le_trans aL.out hq) ?_ HI.out.1 HI.out.2.1 HI.out.2.2).mono ?_; (focus (intro W' hk; exact Kd.C_below HC.out (Below.trans HB2.out (hk.is_below HB2.out.size (fun q hq => Nat.le_trans HNW.out hq))))); rintro e w4 ⟨X, rfl, aN, aC⟩; have U := aM ((aC.block _ (en y.out) (by have := HXN.out; omega)).trans y.out); have aB := aM ((aC.block _ (en aG.out) (by have := HGN.out; omega)).trans aG.out); have aH := aM (Below.trans HB2.out (aC.is_below HB2.out.size (fun q hq => Nat.le_trans HNW.out hq))); have aD := aM (Kd.S_step aS.out (fun q hq hlt => aC.block q hlt (by have := hq.2; omega))); obtain ⟨J, c5, e5⟩ := Kd.S_slice aN; subst e5; have aO := aM (Kd.S_lower (Kd.S_mono aN (fun _ _ => trivial)) HNW.out); clear aN aC BX2_)
   | (go_at_call 55; refine (dj.calls k A3 c3 bx cl _ ?_ ?_ HL.out).mono ?_; (focus (exact (Kd.S_reads' (Kd.S_drew HS.out)).2.2)); (focus (exact (Kd.S_reads' HS.out).2.1)); rintro e w3 ⟨M, rfl, aP, Z⟩; obtain ⟨A4, c4, e4⟩ := Kd.S_slice aP; subst e4; obtain ⟨s, Y⟩ : ∃ s, s = W1.heap.size := ⟨_, rfl⟩; have HNW := aM (show w0.heap.size <= s from by rw [Y]; exact HB.out.size); have HXN := aM (show x0 < s from by rw [Y]; exact en BX.out); have HGN := aM (show g < s from by rw [Y]; exact en GX.out); have aL := aM (show s <= w3.heap.size from by rw [Y]; have := Z.size; simpa using this); have aR := aM (show Kd.S k82 82 w3 s (fun q => s <= q) _ cl from by rw [Y]; exact Kd.S_mono (Kd.S_bound aP) (fun q hq => by have := hq.2.1; simpa using this)); have aS := aM (Kd.S_mono (ok' := fun q => True /\ q < s) (Kd.S_old (Kd.S_drew HS.out) Z) (fun q hq => ⟨trivial, by rw [Y]; have := hq.2; simpa using this⟩)); have y := aM (ai (ag BX.out) Z); have aG := aM (ai (ag GX.out) Z); have HB2 := aM (ae (ac HB.out) Z); clear aP Z Y))
 clear BX GX HB HS y aG HB2 aR aS aL z3 HXN HGN HNW
 obtain ⟨q, hq⟩ : ∃ q, gi cl kind uid mode flags nm l = q := ⟨_, rfl⟩
 rw [hq] at h aO ⊢
 obtain ⟨O, q2⟩ := q
 have aD := aM (Kd.S_mono (ok' := fun _ => True) aD.out (fun _ _ => trivial))
 by_cases h2 : q2 = 0
 ·subst h2
  rw [if_neg (fg)] at h
  obtain ⟨t, ht, h⟩ := Option.bind_eq_some_iff.mp h
  have HT := aM ht
  clear ht
  go_wp2_with fail
  refine (i_room g s0 s1 s2 _ kind uid mode flags nm A c l _ t aB.out (Kd.C_below HC.out aH.out) hc HT.out).mono ?_
  rintro e w5 ⟨rfl, aE⟩
  have D := aM (ai aB.out aE)
  have aQ := aM (ae aH.out aE)
  have aU := aM (Kd.S_below aO.out aE)
  have aV := aM (Kd.S_below aD.out aE)
  clear U aB aH aO aD aE
  obtain ⟨t1, t2⟩ := t
  by_cases h3 : t2 = 0
  ·subst h3
   rw [if_neg (fg)] at h
   obtain ⟨⟨u0, u1, u2⟩, hu, h⟩ := Option.bind_eq_some_iff.mp h
   obtain ⟨⟨M, X, v2⟩, hv, h⟩ := Option.bind_eq_some_iff.mp h
   obtain rfl := Option.some.inj h
   have HU := aM hu
   have HV := aM hv
   have f3 := am D.out 3
   obtain ⟨z0, z1, z2, z3⟩ := cl4 D.out
   have aX := aM (show (w5.setCell ⟨g, 3, none⟩ (.slice J O.length c5)).heap[g]? = some (.cells #[.int .i64 s0, .string s1, .int .i64 s2, .slice J O.length c5] 35 (0, 0)) from ch (cs := #[.int .i64 s0, .string s1, .int .i64 s2, .slice A3 bx.length c3]) D.out 3 _ rfl)
   have aY := aM (aa (j := 3) (v := .slice J O.length c5) aQ.out hgw)
   have aZ := aM (Kd.S_set aU.out D.out (Z68) 3 (.slice J O.length c5))
   clear hu hv D aQ aU aV h
   go_wp2_with fail
   refine (impl_Log_with.calls s0 s1 s2 t1 u0 u1 u2 _ HU.out).mono ?_
   rintro e w6 ⟨rfl, aJ⟩
   have a2 := aM (ai aX.out aJ)
   have a3 := aM (ae aY.out aJ)
   have a5 := aM (Kd.S_below aZ.out aJ)
   clear z0 z1 z2 z3 f3 aX aY aZ aJ HU
   go_wp2_with fail
   refine (impl_Log_sync.calls u0 u1 u2 M X v2 _ HV.out).mono ?_
   rintro e w7 ⟨rfl, aK⟩
   have I := aM (ai a2.out aK)
   have a6 := aM (ae a3.out aK)
   have a7 := aM (Kd.S_below a5.out aK)
   clear a2 a3 a5 aK HV
   obtain ⟨z0, z1, z2⟩ := cl3 I.out
   have f0 := am I.out 0
   have f1 := am I.out 1
   have f2 := am I.out 2
   have bB := aM (show (((w7.setCell ⟨g, 0, none⟩ (.int .i64 M)).setCell ⟨g, 1, none⟩ (.string X)).setCell ⟨g, 2, none⟩ (.int .i64 v2)).heap[g]? = some (.cells #[.int .i64 M, .string X, .int .i64 v2, .slice J O.length c5] 35 (0, 0)) from
    ch (cs := #[.int .i64 M, .string X, .int .i64 s2, .slice J O.length c5]) (ch (cs := #[.int .i64 M, .string s1, .int .i64 s2, .slice J O.length c5]) (ch (cs := #[.int .i64 s0, .string s1, .int .i64 s2, .slice J O.length c5]) I.out 0 _ rfl) 1 _ rfl) 2 _ rfl)
   have bC := aM (aa (j := 2) (v := .int .i64 v2) (aa (j := 1) (v := .string X) (aa (j := 0) (v := .int .i64 M) a6.out hgw) hgw) hgw)
   have bD := aM (Kd.S_mono (ok' := fun _ => True) (Kd.S_far (p := ⟨g, 2, none⟩) (Kd.S_far (p := ⟨g, 1, none⟩) (Kd.S_far (p := ⟨g, 0, none⟩) (Kd.S_types a7.out I.out (Z68)) (fun _ hk => hk.2) (.int .i64 M)) (fun _ hk => hk.2) (.string X)) (fun _ hk => hk.2) (.int .i64 v2)) (fun _ _ => trivial))
   clear I a6 a7
   go_wp2
   go_ret
   exact ⟨rfl, _, bB.out, bD.out, bC.out⟩
  rw [if_pos h3] at h
  obtain rfl := Option.some.inj h
  have hb : (t2 != 0) = true := by simpa using h3
  clear h h3
  go_wp2
  go_ret
  exact ⟨rfl, _, D.out, aV.out, aQ.out⟩
 rw [if_pos h2] at h
 obtain rfl := Option.some.inj h
 have hb : (q2 != 0) = true := by simpa using h2
 clear h h2
 go_wp2
 go_ret
 exact ⟨rfl, _, aB.out, aD.out, aH.out⟩
def impl_Commit.f (k : Nat) (s : Int) (y : ByteArray) (D : Int) (l0_3 : List S82) (I J M O : Int) (U : ByteArray) (X : List S84) : Option (Int × ByteArray × Int × List S82 × Int) :=
 (eh.f k s y D l0_3).bind fun b => if b = false then some (0, ⟨#[]⟩, 0, [], 1) else
  (gj.f k I J M O U X).bind fun Y => if Y = false then some (0, ⟨#[]⟩, 0, [], 1) else
   (impl_cloneEngine.f k s y D l0_3).bind fun q => impl_commit k q.1 q.2.1 q.2.2.1 q.2.2.2 I J M O U X
theorem impl_Commit.calls (k : Nat) (y : Int) (D : ByteArray) (I : Int) (J : Option Addr) (M : Nat) (l0_3 : List S82) (O U X Y : Int) (Z : ByteArray) (aA : Option Addr) (aB : Nat) (s : List S84) (r1 : Int) (r2 : ByteArray) (r3 : Int) (r4 : List S82) (r5 : Int) (w : World)
  (aV : Kd.C k82 w J l0_3.length l0_3) (bG : l0_3.length <= M) (aW : Kd.C k84 w aA s.length s) (bH : s.length <= aB) (h : impl_Commit.f k y D I l0_3 O U X Y Z s = some (r1, r2, r3, r4, r5)) :
  Calls prog 9 #[.agg #[.int .i64 y, .string D, .int .i64 I, .slice J l0_3.length M], .agg #[.int .i64 O, .int .i64 U, .int .i64 X, .int .i64 Y, .string Z, .slice aA s.length aB]] w fun e w' => ∃ v3_ : Value, e = .returned (.tuple #[.agg #[.int .i64 r1, .string r2, .int .i64 r3, v3_], .int .i64 r5]) /\ Kd.S k82 82 w' w.heap.size (fun _ => True) v3_ r4 /\ Below w.heap.size w w' := by
 unfold impl_Commit.f at h
 obtain ⟨b, hb, h⟩ := Option.bind_eq_some_iff.mp h
 have HE := aM hb
 replace aV := aM aV
 replace aW := aM aW
 have EX := aM (ah (ah (show (w.alloc (.cells #[.int .i64 y, .string D, .int .i64 I, .slice J l0_3.length M] 35)).heap[w.heap.size]? = some (.cells #[.int .i64 y, .string D, .int .i64 I, .slice J l0_3.length M] 35 (0, 0)) from by simpa using heap_alloc_new w _) (.cells #[.int .i64 O, .int .i64 U, .int .i64 X, .int .i64 Y, .string Z, .slice aA s.length aB] 41)) (.cells #[.int .i64 0, .string ⟨#[]⟩, .int .i64 0, .slice none 0 0] 35))
 have MX := aM (ah (show ((w.alloc (.cells #[.int .i64 y, .string D, .int .i64 I, .slice J l0_3.length M] 35)).alloc (.cells #[.int .i64 O, .int .i64 U, .int .i64 X, .int .i64 Y, .string Z, .slice aA s.length aB] 41)).heap[w.heap.size + 1]? = some (.cells #[.int .i64 O, .int .i64 U, .int .i64 X, .int .i64 Y, .string Z, .slice aA s.length aB] 41 (0, 0)) from by simpa using heap_alloc_new (w.alloc (.cells #[.int .i64 y, .string D, .int .i64 I, .slice J l0_3.length M] 35)) _) (.cells #[.int .i64 0, .string ⟨#[]⟩, .int .i64 0, .slice none 0 0] 35))
 have RX := aM (show (((w.alloc (.cells #[.int .i64 y, .string D, .int .i64 I, .slice J l0_3.length M] 35)).alloc (.cells #[.int .i64 O, .int .i64 U, .int .i64 X, .int .i64 Y, .string Z, .slice aA s.length aB] 41)).alloc (.cells #[.int .i64 0, .string ⟨#[]⟩, .int .i64 0, .slice none 0 0] 35)).heap[w.heap.size + 1 + 1]? = some (.cells #[.int .i64 0, .string ⟨#[]⟩, .int .i64 0, .slice none 0 0] 35 (0, 0)) from by simpa using heap_alloc_new ((w.alloc (.cells #[.int .i64 y, .string D, .int .i64 I, .slice J l0_3.length M] 35)).alloc (.cells #[.int .i64 O, .int .i64 U, .int .i64 X, .int .i64 Y, .string Z, .slice aA s.length aB] 41)) _)
 have HB := aM (ab (ab (ab (bi w.heap.size w) (.cells #[.int .i64 y, .string D, .int .i64 I, .slice J l0_3.length M] 35)) (.cells #[.int .i64 O, .int .i64 U, .int .i64 X, .int .i64 Y, .string Z, .slice aA s.length aB] 41)) (.cells #[.int .i64 0, .string ⟨#[]⟩, .int .i64 0, .slice none 0 0] 35))
 have aN : w.heap.size <= w.heap.size + 1 + 1 := by omega
 clear hb
 go_enter func9, ntmps9
 go_upto_region 1 with (fail)
 generalize ((w.alloc (.cells #[.int .i64 y, .string D, .int .i64 I, .slice J l0_3.length M] 35)).alloc (.cells #[.int .i64 O, .int .i64 U, .int .i64 X, .int .i64 Y, .string Z, .slice aA s.length aB] 41)).alloc (.cells #[.int .i64 0, .string ⟨#[]⟩, .int .i64 0, .slice none 0 0] 35) = W1 at EX MX RX HB ⊢
 obtain ⟨y0, y1, y2, y3⟩ := cl4 EX.out
 go_wp2_with fail
 refine (eh.calls k y D I J M l0_3 b _ (Kd.C_below aV.out HB.out) bG HE.out).mono ?_
 rintro e w2 ⟨rfl, aT⟩
 have EX2 := aM (ai EX.out aT)
 have MX2 := aM (ai MX.out aT)
 have aF := aM (ai RX.out aT)
 have HB2 := aM (ae HB.out aT)
 clear EX MX RX HB HE aT y0 y1 y2 y3
 have bad : ∀ (W : World), Below w.heap.size w W -> W.heap[w.heap.size + 1 + 1]? = some (.cells #[.int .i64 0, .string ⟨#[]⟩, .int .i64 0, .slice none 0 0] 35 (0, 0)) ->
   Below w.heap.size w ((((W.setCell ⟨w.heap.size + 1 + 1, 0, none⟩ (.int .i64 0)).setCell ⟨w.heap.size + 1 + 1, 1, none⟩ (.string ⟨#[]⟩)).setCell ⟨w.heap.size + 1 + 1, 2, none⟩ (.int .i64 0)).setCell ⟨w.heap.size + 1 + 1, 3, none⟩ (.slice none 0 0)) /\
   ((((W.setCell ⟨w.heap.size + 1 + 1, 0, none⟩ (.int .i64 0)).setCell ⟨w.heap.size + 1 + 1, 1, none⟩ (.string ⟨#[]⟩)).setCell ⟨w.heap.size + 1 + 1, 2, none⟩ (.int .i64 0)).setCell ⟨w.heap.size + 1 + 1, 3, none⟩ (.slice none 0 0)).heap[w.heap.size + 1 + 1]? = some (.cells #[.int .i64 0, .string ⟨#[]⟩, .int .i64 0, .slice none 0 0] 35 (0, 0)) := fun W hb hr =>
  ⟨aa (aa (aa (aa hb aN) aN) aN) aN, ch (cs := #[.int .i64 0, .string ⟨#[]⟩, .int .i64 0, .slice none 0 0]) (ch (cs := #[.int .i64 0, .string ⟨#[]⟩, .int .i64 0, .slice none 0 0]) (ch (cs := #[.int .i64 0, .string ⟨#[]⟩, .int .i64 0, .slice none 0 0]) (ch (cs := #[.int .i64 0, .string ⟨#[]⟩, .int .i64 0, .slice none 0 0]) hr 0 _ rfl) 1 _ rfl) 2 _ rfl) 3 _ rfl⟩
 have BAD := aM bad
 clear bad
 cases b with
 | false =>
  rw [if_pos rfl] at h
  simp only [Option.some.injEq, Prod.mk.injEq] at h
  obtain ⟨rfl, rfl, rfl, rfl, rfl⟩ := h
  have f0 := am aF.out 0
  have f1 := am aF.out 1
  have f2 := am aF.out 2
  have f3 := am aF.out 3
  obtain ⟨q0, q1, q2, q3⟩ := cl4 aF.out
  have HR := aM (BAD.out w2 HB2.out aF.out)
  clear BAD
  go_wp2
  refine bodyPost_ret (fk rfl _ _ (w.heap.size + 1 + 1) 35 #[.int .i64 0, .string ⟨#[]⟩, .int .i64 0, .slice none 0 0] (0, 0) _ rfl HR.out.2 underlying35 rfl (Z16)) rfl ?_
  exact ⟨.slice none 0 0, rfl, Kd.S_nil .., HR.out.1⟩
 | true =>
  rw [if_neg (fg)] at h
  obtain ⟨b2, hb, h⟩ := Option.bind_eq_some_iff.mp h
  have HM := aM hb
  clear hb
  obtain ⟨m0, m1, m2, m3, m4, m5⟩ := cl6 MX2.out
  go_wp2_with fail
  refine (gj.calls k O U X Y Z aA aB s b2 _ (Kd.C_below aW.out HB2.out) bH HM.out).mono ?_
  rintro e w3 ⟨rfl, aU⟩
  have EX3 := aM (ai EX2.out aU)
  have MX3 := aM (ai MX2.out aU)
  have aC := aM (ai aF.out aU)
  have aX := aM (ae HB2.out aU)
  clear EX2 MX2 aF HB2 HM aU m0 m1 m2 m3 m4 m5
  cases b2 with
  | false =>
   rw [if_pos rfl] at h
   simp only [Option.some.injEq, Prod.mk.injEq] at h
   obtain ⟨rfl, rfl, rfl, rfl, rfl⟩ := h
   have f0 := am aC.out 0
   have f1 := am aC.out 1
   have f2 := am aC.out 2
   have f3 := am aC.out 3
   obtain ⟨q0, q1, q2, q3⟩ := cl4 aC.out
   have HR := aM (BAD.out w3 aX.out aC.out)
   clear BAD
   go_wp2
   refine bodyPost_ret (fk rfl _ _ (w.heap.size + 1 + 1) 35 #[.int .i64 0, .string ⟨#[]⟩, .int .i64 0, .slice none 0 0] (0, 0) _ rfl HR.out.2 underlying35 rfl (Z16)) rfl ?_
   exact ⟨.slice none 0 0, rfl, Kd.S_nil .., HR.out.1⟩
  | true =>
   rw [if_neg (fg)] at h
   obtain ⟨⟨e0, e1, e2, e3⟩, hq, h⟩ := Option.bind_eq_some_iff.mp h
   have HQ := aM hq
   clear hq BAD
   obtain ⟨y0, y1, y2, y3⟩ := cl4 EX3.out
   go_wp2_with fail
   refine (impl_cloneEngine.calls k y D I J M l0_3 e0 e1 e2 e3 _ (Kd.C_below aV.out aX.out) bG HQ.out).mono ?_
   rintro e w4 ⟨v3, rfl, bA, aR⟩
   have aO := aM (ah (ai MX3.out aR) (.cells #[.int .i64 e0, .string e1, .int .i64 e2, v3] 35))
   have bB := aM (ah (ai aC.out aR) (.cells #[.int .i64 e0, .string e1, .int .i64 e2, v3] 35))
   have aY := aX
   have aZ := aM (ab aR (.cells #[.int .i64 e0, .string e1, .int .i64 e2, v3] 35))
   have bC := aM (Kd.S_alloc bA (.cells #[.int .i64 e0, .string e1, .int .i64 e2, v3] 35))
   have a2 := aM (show (w4.alloc (.cells #[.int .i64 e0, .string e1, .int .i64 e2, v3] 35)).heap[w4.heap.size]? = some (.cells #[.int .i64 e0, .string e1, .int .i64 e2, v3] 35 (0, 0)) from by simpa using heap_alloc_new w4 _)
   have hgw : w3.heap.size <= w4.heap.size := aR.size
   have bD : w.heap.size + 1 + 1 < w3.heap.size := en aC.out
   have hgx : w.heap.size + 1 + 1 < w4.heap.size := Nat.lt_of_lt_of_le (en aC.out) aR.size
   obtain ⟨A5, c5, e5⟩ := Kd.S_slice bA
   subst e5
   clear EX3 MX3 aC aX HQ bA aR y0 y1 y2 y3
   go_upto_region 4 with (fail)
   generalize w4.alloc (.cells #[.int .i64 e0, .string e1, .int .i64 e2, .slice A5 e3.length c5] 35) = W5 at aO bB aZ bC a2 ⊢
   generalize w4.heap.size = g at a2 hgw hgx ⊢
   obtain ⟨m0, m1, m2, m3, m4, m5⟩ := cl6 aO.out
   go_wp2_with fail
   refine (i_commit k g e0 e1 e2 _ e3 O U X Y Z aA aB s w3 W5 (r1, r2, r3, r4, r5) a2.out hgw bC.out aZ.out (Kd.C_below aW.out aY.out) bH h).mono ?_
   rintro e w6 ⟨v', rfl, hG, bE, bF⟩
   have aG := aM ((bF.block _ bD).trans ((aZ.out.block _ bD).symm.trans bB.out))
   have bN := aM (ae aY.out bF)
   obtain ⟨A6, c6, e6⟩ := Kd.S_slice bE
   subst e6
   have bR := aM (Kd.S_mono (ok' := fun _ => True) (Kd.S_far (p := ⟨w.heap.size + 1 + 1, 3, none⟩) (Kd.S_far (p := ⟨w.heap.size + 1 + 1, 2, none⟩) (Kd.S_far (p := ⟨w.heap.size + 1 + 1, 1, none⟩) (Kd.S_far (p := ⟨w.heap.size + 1 + 1, 0, none⟩) (Kd.S_types (Kd.S_lower bE aY.out.size) aG.out (Z68)) (fun _ hk => hk.2) (.int .i64 r1)) (fun _ hk => hk.2) (.string r2)) (fun _ hk => hk.2) (.int .i64 r3)) (fun _ hk => hk.2) (.slice A6 r4.length c6)) (fun _ _ => trivial))
   have HH := aM (show ((((w6.setCell ⟨w.heap.size + 1 + 1, 0, none⟩ (.int .i64 r1)).setCell ⟨w.heap.size + 1 + 1, 1, none⟩ (.string r2)).setCell ⟨w.heap.size + 1 + 1, 2, none⟩ (.int .i64 r3)).setCell ⟨w.heap.size + 1 + 1, 3, none⟩ (.slice A6 r4.length c6)).heap[w.heap.size + 1 + 1]? = some (.cells #[.int .i64 r1, .string r2, .int .i64 r3, .slice A6 r4.length c6] 35 (0, 0)) from
    ch (cs := #[.int .i64 r1, .string r2, .int .i64 r3, .slice none 0 0]) (ch (cs := #[.int .i64 r1, .string r2, .int .i64 0, .slice none 0 0]) (ch (cs := #[.int .i64 r1, .string ⟨#[]⟩, .int .i64 0, .slice none 0 0]) (ch (cs := #[.int .i64 0, .string ⟨#[]⟩, .int .i64 0, .slice none 0 0]) aG.out 0 _ rfl) 1 _ rfl) 2 _ rfl) 3 _ rfl)
   have HBF := aM (aa (j := 3) (v := .slice A6 r4.length c6) (aa (j := 2) (v := .int .i64 r3) (aa (j := 1) (v := .string r2) (aa (j := 0) (v := .int .i64 r1) bN.out aN) aN) aN) aN)
   have f0 := am aG.out 0
   have f1 := am aG.out 1
   have f2 := am aG.out 2
   have f3 := am aG.out 3
   obtain ⟨q0, q1, q2, q3⟩ := cl4 aG.out
   obtain ⟨z0, z1, z2, z3⟩ := cl4 hG
   clear aO bB aZ bC a2 aY m0 m1 m2 m3 m4 m5 hG bE bF aG bN hgw hgx bD
   go_wp2
   refine bodyPost_ret (fk rfl _ _ (w.heap.size + 1 + 1) 35 #[.int .i64 r1, .string r2, .int .i64 r3, .slice A6 r4.length c6] (0, 0) _ rfl HH.out underlying35 rfl (Z16)) rfl ?_
   exact ⟨_, rfl, bR.out, HBF.out⟩
def laws_eqLog.f (s : Int) (y : ByteArray) (D : Int) (I : Int) (J : ByteArray) (M : Int) : Option (Bool) := if s = I then (if y.toList = J.toList then (if D = M then (some true) else (some false)) else (some false)) else (some false)
theorem laws_eqLog.calls (s : Int) (y : ByteArray) (D : Int) (I : Int) (J : ByteArray) (M : Int) (r : Bool) (w : World) (h : laws_eqLog.f s y D I J M = some r) :
  Calls prog 28 #[.agg #[.int .i64 s, .string y, .int .i64 D], .agg #[.int .i64 I, .string J, .int .i64 M]] w fun e w' => e = .returned (.bool r) /\ Below w.heap.size w w' := by
 have aI := underlying32
 have HB := aM (bi w.heap.size w)
 have H := h
 clear h
 unfold laws_eqLog.f at H
 by_cases c3 : s = I
 ·rw [if_pos c3] at H
  have aC := bf c3
  have aD := bc c3
  clear c3
  by_cases c4 : y.toList = J.toList
  ·rw [if_pos c4] at H
   have aE := bf c4
   have aF := bc c4
   clear c4
   by_cases c5 : D = M
   ·rw [if_pos c5] at H
    have aG := bf c5
    have aH := bc c5
    clear c5
    obtain rfl := oI H
    go_enter func28, ntmps28
    go_wp2_with (first | ((with_reducible refine gD 2 ?_); refine bxF w 2 #[.int .i64 s, .string y, .int .i64 D] 32 (Z0) ?_; intro Y hg w6 BK450 Z GE450 HB hb; clear hb hg) | ((with_reducible refine gD 3 ?_); refine bxF w 3 #[.int .i64 I, .string J, .int .i64 M] 32 (Z40) ?_; intro aA hg w7 O aB GE451 HB hb; have U := aM ((nL BK450 hg (Z64))); have X := aM ((nG BK450 hg (Z64))); replace BK450 := aM (kB BK450 (Z64) hb); clear hb hg; have aJ := U.out; have aK := X.out; refine bD3 BK450 ?_; intros; refine bD3 O ?_; intros))
    go_ret
    exact ⟨Z1, Z91⟩
   rw [if_neg c5] at H
   have aG := bb c5
   have aH := bg c5
   obtain rfl := oI H
   go_enter func28, ntmps28
   go_wp2_with (first | ((with_reducible refine gD 2 ?_); refine bxF w 2 #[.int .i64 s, .string y, .int .i64 D] 32 (Z0) ?_; intro Y hg aL BK450 Z GE450 HB hb; clear hb hg) | ((with_reducible refine gD 3 ?_); refine bxF w 3 #[.int .i64 I, .string J, .int .i64 M] 32 (Z40) ?_; intro aA hg aN O aB GE451 HB hb; have U := aM ((nL BK450 hg (Z64))); have X := aM ((nG BK450 hg (Z64))); replace BK450 := aM (kB BK450 (Z64) hb); clear hb hg; have aO := U.out; have aP := X.out; refine bD3 BK450 ?_; intros; refine bD3 O ?_; intros))
   go_ret
   exact ⟨Z1, Z91⟩
  rw [if_neg c4] at H
  have aE := bb c4
  have aF := bg c4
  obtain rfl := oI H
  go_enter func28, ntmps28
  go_wp2_with (first | ((with_reducible refine gD 2 ?_); refine bxF w 2 #[.int .i64 s, .string y, .int .i64 D] 32 (Z0) ?_; intro Y hg aQ BK450 Z GE450 HB hb; clear hb hg) | ((with_reducible refine gD 3 ?_); refine bxF w 3 #[.int .i64 I, .string J, .int .i64 M] 32 (Z40) ?_; intro aA hg aR O aB GE451 HB hb; have U := aM ((nL BK450 hg (Z64))); have X := aM ((nG BK450 hg (Z64))); replace BK450 := aM (kB BK450 (Z64) hb); clear hb hg; have aS := U.out; have aT := X.out; refine bD3 BK450 ?_; intros; refine bD3 O ?_; intros))
  go_ret
  exact ⟨Z1, Z91⟩
 rw [if_neg c3] at H
 have aC := bb c3
 have aD := bg c3
 obtain rfl := oI H
 go_enter func28, ntmps28
 go_wp2_with (first | ((with_reducible refine gD 2 ?_); refine bxF w 2 #[.int .i64 s, .string y, .int .i64 D] 32 (Z0) ?_; intro Y hg aU BK450 Z GE450 HB hb; clear hb hg) | ((with_reducible refine gD 3 ?_); refine bxF w 3 #[.int .i64 I, .string J, .int .i64 M] 32 (Z40) ?_; intro aA hg aV O aB GE451 HB hb; have U := aM ((nL BK450 hg (Z64))); have X := aM ((nG BK450 hg (Z64))); replace BK450 := aM (kB BK450 (Z64) hb); clear hb hg; have aW := U.out; have aX := X.out; refine bD3 BK450 ?_; intros; refine bD3 O ?_; intros))
 go_ret
 exact ⟨Z1, Z91⟩
end Go.Proofs.YtifkmkiljpeaaadGreat.PFnExactCommit
