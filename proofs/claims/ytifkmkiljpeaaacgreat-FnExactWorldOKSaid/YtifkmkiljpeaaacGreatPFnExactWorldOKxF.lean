import Derived.Test.YtifkmkiljpeaaacGreatPFnExactWorldOKxA
set_option maxHeartbeats 40000000
set_option maxRecDepth 100000
namespace Go.Proofs.YtifkmkiljpeaaacGreat.PFnExactWorldOK
open Go.RowKit Go.Proofs.YtifkmkiljpeaaacGreatW.PrintWords Go.Proofs.YtifkmkiljpeaaacGreatW.PrintLast Go.Proofs.YtifkmkiljpeaaacGreatW.PrintMore Go.Proofs.YtifkmkiljpeaaacGreat.Mac Go.Proofs.Tryz
set_option linter.unusedVariables false
set_option linter.unusedSimpArgs false
attribute [local go_sem high] eqA109
mutual
def spec_l09Same.l0 : Nat → List (S98) → List (S98) → Int → Option (Bool)
 | 0, _, _, _ => none
 | k + 1, x0, x1, x5 => if x5 < (x0.length : Int) then (if 0 ≤ x5 then (if x5 < (x1.length : Int) then (if ((rd_T98 x0 x5).f0).toList = ((rd_T98 x1 x5).f0).toList then (if ((rd_T98 x0 x5).f1) = ((rd_T98 x1 x5).f1) then (if ((rd_T98 x0 x5).f2) = ((rd_T98 x1 x5).f2) then (if (((rd_T98 x0 x5).f3).length : Int) = (((rd_T98 x1 x5).f3).length : Int) then (spec_l09Same.j1 k x0 x1 x5 ((((rd_T98 x0 x5).f4).length : Int) != (((rd_T98 x1 x5).f4).length : Int)) ((rd_T98 x0 x5).f0) ((rd_T98 x0 x5).f1) ((rd_T98 x0 x5).f2) ((rd_T98 x0 x5).f3) ((rd_T98 x0 x5).f4) ((rd_T98 x1 x5).f0) ((rd_T98 x1 x5).f1) ((rd_T98 x1 x5).f2) ((rd_T98 x1 x5).f3) ((rd_T98 x1 x5).f4)) else (spec_l09Same.j1 k x0 x1 x5 true ((rd_T98 x0 x5).f0) ((rd_T98 x0 x5).f1) ((rd_T98 x0 x5).f2) ((rd_T98 x0 x5).f3) ((rd_T98 x0 x5).f4) ((rd_T98 x1 x5).f0) ((rd_T98 x1 x5).f1) ((rd_T98 x1 x5).f2) ((rd_T98 x1 x5).f3) ((rd_T98 x1 x5).f4))) else (spec_l09Same.j1 k x0 x1 x5 true ((rd_T98 x0 x5).f0) ((rd_T98 x0 x5).f1) ((rd_T98 x0 x5).f2) ((rd_T98 x0 x5).f3) ((rd_T98 x0 x5).f4) ((rd_T98 x1 x5).f0) ((rd_T98 x1 x5).f1) ((rd_T98 x1 x5).f2) ((rd_T98 x1 x5).f3) ((rd_T98 x1 x5).f4))) else (spec_l09Same.j1 k x0 x1 x5 true ((rd_T98 x0 x5).f0) ((rd_T98 x0 x5).f1) ((rd_T98 x0 x5).f2) ((rd_T98 x0 x5).f3) ((rd_T98 x0 x5).f4) ((rd_T98 x1 x5).f0) ((rd_T98 x1 x5).f1) ((rd_T98 x1 x5).f2) ((rd_T98 x1 x5).f3) ((rd_T98 x1 x5).f4))) else (spec_l09Same.j1 k x0 x1 x5 true ((rd_T98 x0 x5).f0) ((rd_T98 x0 x5).f1) ((rd_T98 x0 x5).f2) ((rd_T98 x0 x5).f3) ((rd_T98 x0 x5).f4) ((rd_T98 x1 x5).f0) ((rd_T98 x1 x5).f1) ((rd_T98 x1 x5).f2) ((rd_T98 x1 x5).f3) ((rd_T98 x1 x5).f4))) else (none)) else (none)) else (some true)
def spec_l09Same.j1 : Nat → List (S98) → List (S98) → Int → Bool → ByteArray → Int → Int → List (S109) → List ByteArray → ByteArray → Int → Int → List (S109) → List ByteArray → Option (Bool)
 | 0, _, _, _, _, _, _, _, _, _, _, _, _, _, _ => none
 | k + 1, x0, x1, x5, s, y, D, I, J, M, O, U, X, Y, Z => if s = true then (some false) else (spec_l09Same.l1 k x0 x1 x5 0 y D I J M O U X Y Z)
def spec_l09Same.l1 : Nat → List (S98) → List (S98) → Int → Int → ByteArray → Int → Int → List (S109) → List ByteArray → ByteArray → Int → Int → List (S109) → List ByteArray → Option (Bool)
 | 0, _, _, _, _, _, _, _, _, _, _, _, _, _, _ => none
 | k + 1, x0, x1, x5, x8, D, I, J, s, M, O, U, X, y, Y => if x8 < (s.length : Int) then (if 0 ≤ x8 then (if x8 < (y.length : Int) then (if (!(((rd_T109 s x8).f0) == ((rd_T109 y x8).f0)) || (!(((rd_T109 s x8).f1) == ((rd_T109 y x8).f1)) || (!((((rd_T109 s x8).f2).toList) == (((rd_T109 y x8).f2).toList))))) = true then (some false) else (spec_l09Same.l1 k x0 x1 x5 (wrap64 (x8 + 1)) D I J s M O U X y Y)) else (none)) else (none)) else (spec_l09Same.l2 k x0 x1 x5 0 D I J s M O U X y Y)
def spec_l09Same.l2 : Nat → List (S98) → List (S98) → Int → Int → ByteArray → Int → Int → List (S109) → List ByteArray → ByteArray → Int → Int → List (S109) → List ByteArray → Option (Bool)
 | 0, _, _, _, _, _, _, _, _, _, _, _, _, _, _ => none
 | k + 1, x0, x1, x5, x9, D, I, J, M, s, O, U, X, Y, y => if x9 < (s.length : Int) then (if 0 ≤ x9 then (if x9 < (y.length : Int) then (if (rdOf ByteArray.empty s x9).toList = (rdOf ByteArray.empty y x9).toList then (spec_l09Same.l2 k x0 x1 x5 (wrap64 (x9 + 1)) D I J M s O U X Y y) else (some false)) else (none)) else (none)) else (spec_l09Same.l0 k x0 x1 (wrap64 (x5 + 1)))
end
def spec_l09Same.f (k : Nat) (l0 : List (S98)) (l1 : List (S98)) : Option (Bool) := if (l0.length : Int) = (l1.length : Int) then (spec_l09Same.l0 k l0 l1 0) else (some false)
theorem spec_l09Same.calls (k : Nat) (A0 : Option Addr) (c0 : Nat) (l0 : List (S98)) (A1 : Option Addr) (c1 : Nat) (l1 : List (S98)) (r : Bool) (w : World) (hr0 : Kd.C k98 w A0 l0.length l0) (cG : l0.length ≤ c0) (a9 : Kd.C k98 w A1 l1.length l1) (cH : l1.length ≤ c1) (h : spec_l09Same.f k l0 l1 = some r) :
  Calls prog 28 #[.slice A0 l0.length c0, .slice A1 l1.length c1] w fun e w' => e = .returned (.bool r) ∧ Below w.heap.size w w' := by
 have eP := underlying98
 have eQ := underlying109
 replace hr0 := aM hr0
 replace cG := aM cG
 replace a9 := aM a9
 replace cH := aM cH
 have HB := aM (Below.refl w.heap.size w)
 have H := h
 clear h
 unfold spec_l09Same.f at H
 by_cases c3 : (l0.length : Int) = (l1.length : Int)
 ·rw [if_pos c3] at H
  have bA := beq_iff_eq.mpr c3
  have bB := bne_eq_false_iff_eq.mpr c3
  have bC : (l0.length == l1.length) = true := by first | simpa using c3 | (simp at c3 ⊢; omega)
  clear c3
  have H' := aM H
  clear H
  go_enter func28, ntmps28
  go_wp2
  repeat (go_quiet (fail); try go_wp2)
  go_loopg [5] k (fun kq v5 w' => ∃ (x5_1 : Int), v5 = .int .i64 x5_1 ∧ Aside0 (spec_l09Same.l0 kq l0 l1 x5_1 = some r) ∧ Aside0 (kq ≤ k) ∧ Aside0 (Below w.heap.size w w'))
  case atStart => exact ⟨(0), (Z3), H', ⟨Nat.le_refl _⟩, ⟨Z0⟩⟩
  case round =>
   clear H'
   (try clear c1); (try clear c3); (try clear bA); (try clear bB); (try clear bC)
   obtain ⟨x5_1, rfl, HA, HK1, HB⟩ := hrel
   cases gk with
   | zero => exact absurd HA.out (by simp [spec_l09Same.l0])
   | succ k1 =>
    have H := HA.out
    clear HA
    simp only [spec_l09Same.l0] at H
    by_cases c4 : x5_1 < (l0.length : Int)
    ·rw [if_pos c4] at H
     have bU := decide_eq_true c4
     clear c4
     obtain ⟨c5, H⟩ := ifS H
     have bZ := decide_eq_true c5
     clear c5
     obtain ⟨c6, H⟩ := ifS H
     have b0 := decide_eq_true c6
     clear c6
     have b1 := aM H
     clear H
     have aZ : 0 ≤ (x5_1 : Int) := of_decide_eq_true (Z4)
     have a2 : x5_1 < (l0.length : Int) := of_decide_eq_true (Z4)
     obtain ⟨eR, A228_3, c228_3, O, U, d3, bD, bE, bF, bG, bH, cI, cJ, cK, cL⟩ := at_T98 hr0.out x5_1 aZ a2
     cases d3
     replace bD := cB HB.out bD
     replace bE := cB HB.out bE
     replace bF := cB HB.out bF
     replace bG := cB HB.out bG
     replace bH := cB HB.out bH
     have cM := aM cJ
     have eS := aM cI
     clear cJ cI
     have cN := aM cL
     have eT := aM cK
     clear cL cK
     replace aZ := eq_true aZ
     replace a2 := eq_true a2
     go_upto_region 8 with (first | ((with_reducible refine gD 6 ?_); (try (refine gate_guard (Z117) ?_; dsimp only)); refine bxF w 6 #[.string (⟨#[]⟩ : ByteArray), .int .i64 0, .int .i64 0, .slice none 0 0, .slice none 0 0] 98 (Z0) ?_; intro s hg Z BK229 aA GE229 HB hb; clear hb hg; obtain ⟨cO, cP, cQ, cR, cS⟩ := bc5 BK229.out; obtain ⟨cT, cU, cV, cX, cY⟩ := bf5 BK229.out; have aD : 0 ≤ (x5_1 : Int) := of_decide_eq_true (Z4); have aE : x5_1 < (l1.length : Int) := of_decide_eq_true (Z4); obtain ⟨aB, A230_3, c230_3, bI, bJ, bK, y, D, I, J, M, aH, aI, aJ, aK⟩ := at_T98 a9.out x5_1 aD aE; cases bK; have hn230_0 : aB.block ≠ s := Nat.ne_of_lt (Nat.lt_of_lt_of_le (by have := World.block_lt_of_cell? _ _ y; first | rwa [add_block] at this | exact this) aA.out); have hn230_1 : aB.block ≠ s := Nat.ne_of_lt (Nat.lt_of_lt_of_le (by have := World.block_lt_of_cell? _ _ y; first | rwa [add_block] at this | exact this) aA.out); have hn230_2 : aB.block ≠ s := Nat.ne_of_lt (Nat.lt_of_lt_of_le (by have := World.block_lt_of_cell? _ _ y; first | rwa [add_block] at this | exact this) aA.out); have hn230_3 : aB.block ≠ s := Nat.ne_of_lt (Nat.lt_of_lt_of_le (by have := World.block_lt_of_cell? _ _ y; first | rwa [add_block] at this | exact this) aA.out); have hn230_4 : aB.block ≠ s := Nat.ne_of_lt (Nat.lt_of_lt_of_le (by have := World.block_lt_of_cell? _ _ y; first | rwa [add_block] at this | exact this) aA.out); replace y := cB HB.out y; replace D := cB HB.out D; replace I := cB HB.out I; replace J := cB HB.out J; replace M := cB HB.out M; have bV := aM aI; have cZ := aM aH; clear aI aH; have bW := aM aK; have dA := aM aJ; clear aK aJ; replace y := cE s 0 (Z54) (.string ((rd_T98 l0 x5_1).f0)) y; replace D := cE s 0 (Z54) (.string ((rd_T98 l0 x5_1).f0)) D; replace I := cE s 0 (Z54) (.string ((rd_T98 l0 x5_1).f0)) I; replace J := cE s 0 (Z54) (.string ((rd_T98 l0 x5_1).f0)) J; replace M := cE s 0 (Z54) (.string ((rd_T98 l0 x5_1).f0)) M; replace y := cE s 1 (Z55) (.int .i64 ((rd_T98 l0 x5_1).f1)) y; replace D := cE s 1 (Z55) (.int .i64 ((rd_T98 l0 x5_1).f1)) D; replace I := cE s 1 (Z55) (.int .i64 ((rd_T98 l0 x5_1).f1)) I; replace J := cE s 1 (Z55) (.int .i64 ((rd_T98 l0 x5_1).f1)) J; replace M := cE s 1 (Z55) (.int .i64 ((rd_T98 l0 x5_1).f1)) M; replace y := cE s 2 (Z56) (.int .i64 ((rd_T98 l0 x5_1).f2)) y; replace D := cE s 2 (Z56) (.int .i64 ((rd_T98 l0 x5_1).f2)) D; replace I := cE s 2 (Z56) (.int .i64 ((rd_T98 l0 x5_1).f2)) I; replace J := cE s 2 (Z56) (.int .i64 ((rd_T98 l0 x5_1).f2)) J; replace M := cE s 2 (Z56) (.int .i64 ((rd_T98 l0 x5_1).f2)) M; replace y := cE s 3 (Z57) (.slice A228_3 ((rd_T98 l0 x5_1).f3).length c228_3) y; replace D := cE s 3 (Z57) (.slice A228_3 ((rd_T98 l0 x5_1).f3).length c228_3) D; replace I := cE s 3 (Z57) (.slice A228_3 ((rd_T98 l0 x5_1).f3).length c228_3) I; replace J := cE s 3 (Z57) (.slice A228_3 ((rd_T98 l0 x5_1).f3).length c228_3) J; replace M := cE s 3 (Z57) (.slice A228_3 ((rd_T98 l0 x5_1).f3).length c228_3) M; replace y := cE s 4 (Z58) (.slice O ((rd_T98 l0 x5_1).f4).length U) y; replace D := cE s 4 (Z58) (.slice O ((rd_T98 l0 x5_1).f4).length U) D; replace I := cE s 4 (Z58) (.slice O ((rd_T98 l0 x5_1).f4).length U) I; replace J := cE s 4 (Z58) (.slice O ((rd_T98 l0 x5_1).f4).length U) J; replace M := cE s 4 (Z58) (.slice O ((rd_T98 l0 x5_1).f4).length U) M; (try have dB := fun (n_ : Nat) => (show (((((((Z.drewN n_).setCell ⟨s, 0, none⟩ (.string ((rd_T98 l0 x5_1).f0))).setCell ⟨s, 1, none⟩ (.int .i64 ((rd_T98 l0 x5_1).f1))).setCell ⟨s, 2, none⟩ (.int .i64 ((rd_T98 l0 x5_1).f2))).setCell ⟨s, 3, none⟩ (.slice A228_3 ((rd_T98 l0 x5_1).f3).length c228_3)).setCell ⟨s, 4, none⟩ (.slice O ((rd_T98 l0 x5_1).f4).length U))).cell? _ = some _ from y)); (try have dC := fun (n_ : Nat) => (show (((((((Z.drewN n_).setCell ⟨s, 0, none⟩ (.string ((rd_T98 l0 x5_1).f0))).setCell ⟨s, 1, none⟩ (.int .i64 ((rd_T98 l0 x5_1).f1))).setCell ⟨s, 2, none⟩ (.int .i64 ((rd_T98 l0 x5_1).f2))).setCell ⟨s, 3, none⟩ (.slice A228_3 ((rd_T98 l0 x5_1).f3).length c228_3)).setCell ⟨s, 4, none⟩ (.slice O ((rd_T98 l0 x5_1).f4).length U))).cell? _ = some _ from D)); (try have dD := fun (n_ : Nat) => (show (((((((Z.drewN n_).setCell ⟨s, 0, none⟩ (.string ((rd_T98 l0 x5_1).f0))).setCell ⟨s, 1, none⟩ (.int .i64 ((rd_T98 l0 x5_1).f1))).setCell ⟨s, 2, none⟩ (.int .i64 ((rd_T98 l0 x5_1).f2))).setCell ⟨s, 3, none⟩ (.slice A228_3 ((rd_T98 l0 x5_1).f3).length c228_3)).setCell ⟨s, 4, none⟩ (.slice O ((rd_T98 l0 x5_1).f4).length U))).cell? _ = some _ from I)); (try have dE := fun (n_ : Nat) => (show (((((((Z.drewN n_).setCell ⟨s, 0, none⟩ (.string ((rd_T98 l0 x5_1).f0))).setCell ⟨s, 1, none⟩ (.int .i64 ((rd_T98 l0 x5_1).f1))).setCell ⟨s, 2, none⟩ (.int .i64 ((rd_T98 l0 x5_1).f2))).setCell ⟨s, 3, none⟩ (.slice A228_3 ((rd_T98 l0 x5_1).f3).length c228_3)).setCell ⟨s, 4, none⟩ (.slice O ((rd_T98 l0 x5_1).f4).length U))).cell? _ = some _ from J)); (try have dF := fun (n_ : Nat) => (show (((((((Z.drewN n_).setCell ⟨s, 0, none⟩ (.string ((rd_T98 l0 x5_1).f0))).setCell ⟨s, 1, none⟩ (.int .i64 ((rd_T98 l0 x5_1).f1))).setCell ⟨s, 2, none⟩ (.int .i64 ((rd_T98 l0 x5_1).f2))).setCell ⟨s, 3, none⟩ (.slice A228_3 ((rd_T98 l0 x5_1).f3).length c228_3)).setCell ⟨s, 4, none⟩ (.slice O ((rd_T98 l0 x5_1).f4).length U))).cell? _ = some _ from M)); clear hn230_0; clear hn230_1; clear hn230_2; clear hn230_3; clear hn230_4; replace aD := eq_true aD; replace aE := eq_true aE) | ((with_reducible refine gD 7 ?_); (try (refine gate_guard (Z117) ?_; dsimp only)); refine bxF w 7 #[.string (⟨#[]⟩ : ByteArray), .int .i64 0, .int .i64 0, .slice none 0 0, .slice none 0 0] 98 (Z72) ?_; intro aF hg dG BK231 dH GE231 HB hb; have NB229_231 := aM ((by rw [hg]; exact Nat.ne_of_lt (blk_lt (g := s) (o := .cells #[.string ((rd_T98 l0 x5_1).f0), .int .i64 ((rd_T98 l0 x5_1).f1), .int .i64 ((rd_T98 l0 x5_1).f2), .slice A228_3 ((rd_T98 l0 x5_1).f3).length c228_3, .slice O ((rd_T98 l0 x5_1).f4).length U] 98 (0, 0)) (Z5)) : s ≠ aF)); have aC := aM ((by rw [hg]; exact Nat.ne_of_gt (blk_lt (g := s) (o := .cells #[.string ((rd_T98 l0 x5_1).f0), .int .i64 ((rd_T98 l0 x5_1).f1), .int .i64 ((rd_T98 l0 x5_1).f2), .slice A228_3 ((rd_T98 l0 x5_1).f3).length c228_3, .slice O ((rd_T98 l0 x5_1).f4).length U] 98 (0, 0)) (Z5)) : aF ≠ s)); replace BK229 := aM (blk_below (g := s) (o := .cells #[.string ((rd_T98 l0 x5_1).f0), .int .i64 ((rd_T98 l0 x5_1).f1), .int .i64 ((rd_T98 l0 x5_1).f2), .slice A228_3 ((rd_T98 l0 x5_1).f3).length c228_3, .slice O ((rd_T98 l0 x5_1).f4).length U] 98 (0, 0)) (Z5) hb); clear hb hg; have dI := aC.out; have dJ := NB229_231.out; obtain ⟨dK, dL, dM, dN, dO⟩ := bc5 BK231.out; obtain ⟨dP, dQ, dR, dS, dT⟩ := bf5 BK231.out))
     repeat (go_quiet (first | ((with_reducible refine gD 6 ?_); (try (refine gate_guard (Z117) ?_; dsimp only)); refine bxF w 6 #[.string (⟨#[]⟩ : ByteArray), .int .i64 0, .int .i64 0, .slice none 0 0, .slice none 0 0] 98 (Z0) ?_; intro s hg Z BK229 aA GE229 HB hb; clear hb hg; obtain ⟨cO, cP, cQ, cR, cS⟩ := bc5 BK229.out; obtain ⟨cT, cU, cV, cX, cY⟩ := bf5 BK229.out; have aD : 0 ≤ (x5_1 : Int) := of_decide_eq_true (Z4); have aE : x5_1 < (l1.length : Int) := of_decide_eq_true (Z4); obtain ⟨aB, A230_3, c230_3, bI, bJ, bK, y, D, I, J, M, aH, aI, aJ, aK⟩ := at_T98 a9.out x5_1 aD aE; cases bK; have hn230_0 : aB.block ≠ s := Nat.ne_of_lt (Nat.lt_of_lt_of_le (by have := World.block_lt_of_cell? _ _ y; first | rwa [add_block] at this | exact this) aA.out); have hn230_1 : aB.block ≠ s := Nat.ne_of_lt (Nat.lt_of_lt_of_le (by have := World.block_lt_of_cell? _ _ y; first | rwa [add_block] at this | exact this) aA.out); have hn230_2 : aB.block ≠ s := Nat.ne_of_lt (Nat.lt_of_lt_of_le (by have := World.block_lt_of_cell? _ _ y; first | rwa [add_block] at this | exact this) aA.out); have hn230_3 : aB.block ≠ s := Nat.ne_of_lt (Nat.lt_of_lt_of_le (by have := World.block_lt_of_cell? _ _ y; first | rwa [add_block] at this | exact this) aA.out); have hn230_4 : aB.block ≠ s := Nat.ne_of_lt (Nat.lt_of_lt_of_le (by have := World.block_lt_of_cell? _ _ y; first | rwa [add_block] at this | exact this) aA.out); replace y := cB HB.out y; replace D := cB HB.out D; replace I := cB HB.out I; replace J := cB HB.out J; replace M := cB HB.out M; have bV := aM aI; have cZ := aM aH; clear aI aH; have bW := aM aK; have dA := aM aJ; clear aK aJ; replace y := cE s 0 (Z54) (.string ((rd_T98 l0 x5_1).f0)) y; replace D := cE s 0 (Z54) (.string ((rd_T98 l0 x5_1).f0)) D; replace I := cE s 0 (Z54) (.string ((rd_T98 l0 x5_1).f0)) I; replace J := cE s 0 (Z54) (.string ((rd_T98 l0 x5_1).f0)) J; replace M := cE s 0 (Z54) (.string ((rd_T98 l0 x5_1).f0)) M; replace y := cE s 1 (Z55) (.int .i64 ((rd_T98 l0 x5_1).f1)) y; replace D := cE s 1 (Z55) (.int .i64 ((rd_T98 l0 x5_1).f1)) D; replace I := cE s 1 (Z55) (.int .i64 ((rd_T98 l0 x5_1).f1)) I; replace J := cE s 1 (Z55) (.int .i64 ((rd_T98 l0 x5_1).f1)) J; replace M := cE s 1 (Z55) (.int .i64 ((rd_T98 l0 x5_1).f1)) M; replace y := cE s 2 (Z56) (.int .i64 ((rd_T98 l0 x5_1).f2)) y; replace D := cE s 2 (Z56) (.int .i64 ((rd_T98 l0 x5_1).f2)) D; replace I := cE s 2 (Z56) (.int .i64 ((rd_T98 l0 x5_1).f2)) I; replace J := cE s 2 (Z56) (.int .i64 ((rd_T98 l0 x5_1).f2)) J; replace M := cE s 2 (Z56) (.int .i64 ((rd_T98 l0 x5_1).f2)) M; replace y := cE s 3 (Z57) (.slice A228_3 ((rd_T98 l0 x5_1).f3).length c228_3) y; replace D := cE s 3 (Z57) (.slice A228_3 ((rd_T98 l0 x5_1).f3).length c228_3) D; replace I := cE s 3 (Z57) (.slice A228_3 ((rd_T98 l0 x5_1).f3).length c228_3) I; replace J := cE s 3 (Z57) (.slice A228_3 ((rd_T98 l0 x5_1).f3).length c228_3) J; replace M := cE s 3 (Z57) (.slice A228_3 ((rd_T98 l0 x5_1).f3).length c228_3) M; replace y := cE s 4 (Z58) (.slice O ((rd_T98 l0 x5_1).f4).length U) y; replace D := cE s 4 (Z58) (.slice O ((rd_T98 l0 x5_1).f4).length U) D; replace I := cE s 4 (Z58) (.slice O ((rd_T98 l0 x5_1).f4).length U) I; replace J := cE s 4 (Z58) (.slice O ((rd_T98 l0 x5_1).f4).length U) J; replace M := cE s 4 (Z58) (.slice O ((rd_T98 l0 x5_1).f4).length U) M; (try have dB := fun (n_ : Nat) => (show (((((((Z.drewN n_).setCell ⟨s, 0, none⟩ (.string ((rd_T98 l0 x5_1).f0))).setCell ⟨s, 1, none⟩ (.int .i64 ((rd_T98 l0 x5_1).f1))).setCell ⟨s, 2, none⟩ (.int .i64 ((rd_T98 l0 x5_1).f2))).setCell ⟨s, 3, none⟩ (.slice A228_3 ((rd_T98 l0 x5_1).f3).length c228_3)).setCell ⟨s, 4, none⟩ (.slice O ((rd_T98 l0 x5_1).f4).length U))).cell? _ = some _ from y)); (try have dC := fun (n_ : Nat) => (show (((((((Z.drewN n_).setCell ⟨s, 0, none⟩ (.string ((rd_T98 l0 x5_1).f0))).setCell ⟨s, 1, none⟩ (.int .i64 ((rd_T98 l0 x5_1).f1))).setCell ⟨s, 2, none⟩ (.int .i64 ((rd_T98 l0 x5_1).f2))).setCell ⟨s, 3, none⟩ (.slice A228_3 ((rd_T98 l0 x5_1).f3).length c228_3)).setCell ⟨s, 4, none⟩ (.slice O ((rd_T98 l0 x5_1).f4).length U))).cell? _ = some _ from D)); (try have dD := fun (n_ : Nat) => (show (((((((Z.drewN n_).setCell ⟨s, 0, none⟩ (.string ((rd_T98 l0 x5_1).f0))).setCell ⟨s, 1, none⟩ (.int .i64 ((rd_T98 l0 x5_1).f1))).setCell ⟨s, 2, none⟩ (.int .i64 ((rd_T98 l0 x5_1).f2))).setCell ⟨s, 3, none⟩ (.slice A228_3 ((rd_T98 l0 x5_1).f3).length c228_3)).setCell ⟨s, 4, none⟩ (.slice O ((rd_T98 l0 x5_1).f4).length U))).cell? _ = some _ from I)); (try have dE := fun (n_ : Nat) => (show (((((((Z.drewN n_).setCell ⟨s, 0, none⟩ (.string ((rd_T98 l0 x5_1).f0))).setCell ⟨s, 1, none⟩ (.int .i64 ((rd_T98 l0 x5_1).f1))).setCell ⟨s, 2, none⟩ (.int .i64 ((rd_T98 l0 x5_1).f2))).setCell ⟨s, 3, none⟩ (.slice A228_3 ((rd_T98 l0 x5_1).f3).length c228_3)).setCell ⟨s, 4, none⟩ (.slice O ((rd_T98 l0 x5_1).f4).length U))).cell? _ = some _ from J)); (try have dF := fun (n_ : Nat) => (show (((((((Z.drewN n_).setCell ⟨s, 0, none⟩ (.string ((rd_T98 l0 x5_1).f0))).setCell ⟨s, 1, none⟩ (.int .i64 ((rd_T98 l0 x5_1).f1))).setCell ⟨s, 2, none⟩ (.int .i64 ((rd_T98 l0 x5_1).f2))).setCell ⟨s, 3, none⟩ (.slice A228_3 ((rd_T98 l0 x5_1).f3).length c228_3)).setCell ⟨s, 4, none⟩ (.slice O ((rd_T98 l0 x5_1).f4).length U))).cell? _ = some _ from M)); clear hn230_0; clear hn230_1; clear hn230_2; clear hn230_3; clear hn230_4; replace aD := eq_true aD; replace aE := eq_true aE) | ((with_reducible refine gD 7 ?_); (try (refine gate_guard (Z117) ?_; dsimp only)); refine bxF w 7 #[.string (⟨#[]⟩ : ByteArray), .int .i64 0, .int .i64 0, .slice none 0 0, .slice none 0 0] 98 (Z72) ?_; intro aF hg dG BK231 dH GE231 HB hb; have NB229_231 := aM ((by rw [hg]; exact Nat.ne_of_lt (blk_lt (g := s) (o := .cells #[.string ((rd_T98 l0 x5_1).f0), .int .i64 ((rd_T98 l0 x5_1).f1), .int .i64 ((rd_T98 l0 x5_1).f2), .slice A228_3 ((rd_T98 l0 x5_1).f3).length c228_3, .slice O ((rd_T98 l0 x5_1).f4).length U] 98 (0, 0)) (Z5)) : s ≠ aF)); have aC := aM ((by rw [hg]; exact Nat.ne_of_gt (blk_lt (g := s) (o := .cells #[.string ((rd_T98 l0 x5_1).f0), .int .i64 ((rd_T98 l0 x5_1).f1), .int .i64 ((rd_T98 l0 x5_1).f2), .slice A228_3 ((rd_T98 l0 x5_1).f3).length c228_3, .slice O ((rd_T98 l0 x5_1).f4).length U] 98 (0, 0)) (Z5)) : aF ≠ s)); replace BK229 := aM (blk_below (g := s) (o := .cells #[.string ((rd_T98 l0 x5_1).f0), .int .i64 ((rd_T98 l0 x5_1).f1), .int .i64 ((rd_T98 l0 x5_1).f2), .slice A228_3 ((rd_T98 l0 x5_1).f3).length c228_3, .slice O ((rd_T98 l0 x5_1).f4).length U] 98 (0, 0)) (Z5) hb); clear hb hg; have dI := aC.out; have dJ := NB229_231.out; obtain ⟨dK, dL, dM, dN, dO⟩ := bc5 BK231.out; obtain ⟨dP, dQ, dR, dS, dT⟩ := bf5 BK231.out)); go_upto_region 8 with (first | ((with_reducible refine gD 6 ?_); (try (refine gate_guard (Z117) ?_; dsimp only)); refine bxF w 6 #[.string (⟨#[]⟩ : ByteArray), .int .i64 0, .int .i64 0, .slice none 0 0, .slice none 0 0] 98 (Z0) ?_; intro s hg Z BK229 aA GE229 HB hb; clear hb hg; obtain ⟨cO, cP, cQ, cR, cS⟩ := bc5 BK229.out; obtain ⟨cT, cU, cV, cX, cY⟩ := bf5 BK229.out; have aD : 0 ≤ (x5_1 : Int) := of_decide_eq_true (Z4); have aE : x5_1 < (l1.length : Int) := of_decide_eq_true (Z4); obtain ⟨aB, A230_3, c230_3, bI, bJ, bK, y, D, I, J, M, aH, aI, aJ, aK⟩ := at_T98 a9.out x5_1 aD aE; cases bK; have hn230_0 : aB.block ≠ s := Nat.ne_of_lt (Nat.lt_of_lt_of_le (by have := World.block_lt_of_cell? _ _ y; first | rwa [add_block] at this | exact this) aA.out); have hn230_1 : aB.block ≠ s := Nat.ne_of_lt (Nat.lt_of_lt_of_le (by have := World.block_lt_of_cell? _ _ y; first | rwa [add_block] at this | exact this) aA.out); have hn230_2 : aB.block ≠ s := Nat.ne_of_lt (Nat.lt_of_lt_of_le (by have := World.block_lt_of_cell? _ _ y; first | rwa [add_block] at this | exact this) aA.out); have hn230_3 : aB.block ≠ s := Nat.ne_of_lt (Nat.lt_of_lt_of_le (by have := World.block_lt_of_cell? _ _ y; first | rwa [add_block] at this | exact this) aA.out); have hn230_4 : aB.block ≠ s := Nat.ne_of_lt (Nat.lt_of_lt_of_le (by have := World.block_lt_of_cell? _ _ y; first | rwa [add_block] at this | exact this) aA.out); replace y := cB HB.out y; replace D := cB HB.out D; replace I := cB HB.out I; replace J := cB HB.out J; replace M := cB HB.out M; have bV := aM aI; have cZ := aM aH; clear aI aH; have bW := aM aK; have dA := aM aJ; clear aK aJ; replace y := cE s 0 (Z54) (.string ((rd_T98 l0 x5_1).f0)) y; replace D := cE s 0 (Z54) (.string ((rd_T98 l0 x5_1).f0)) D; replace I := cE s 0 (Z54) (.string ((rd_T98 l0 x5_1).f0)) I; replace J := cE s 0 (Z54) (.string ((rd_T98 l0 x5_1).f0)) J; replace M := cE s 0 (Z54) (.string ((rd_T98 l0 x5_1).f0)) M; replace y := cE s 1 (Z55) (.int .i64 ((rd_T98 l0 x5_1).f1)) y; replace D := cE s 1 (Z55) (.int .i64 ((rd_T98 l0 x5_1).f1)) D; replace I := cE s 1 (Z55) (.int .i64 ((rd_T98 l0 x5_1).f1)) I; replace J := cE s 1 (Z55) (.int .i64 ((rd_T98 l0 x5_1).f1)) J; replace M := cE s 1 (Z55) (.int .i64 ((rd_T98 l0 x5_1).f1)) M; replace y := cE s 2 (Z56) (.int .i64 ((rd_T98 l0 x5_1).f2)) y; replace D := cE s 2 (Z56) (.int .i64 ((rd_T98 l0 x5_1).f2)) D; replace I := cE s 2 (Z56) (.int .i64 ((rd_T98 l0 x5_1).f2)) I; replace J := cE s 2 (Z56) (.int .i64 ((rd_T98 l0 x5_1).f2)) J; replace M := cE s 2 (Z56) (.int .i64 ((rd_T98 l0 x5_1).f2)) M; replace y := cE s 3 (Z57) (.slice A228_3 ((rd_T98 l0 x5_1).f3).length c228_3) y; replace D := cE s 3 (Z57) (.slice A228_3 ((rd_T98 l0 x5_1).f3).length c228_3) D; replace I := cE s 3 (Z57) (.slice A228_3 ((rd_T98 l0 x5_1).f3).length c228_3) I; replace J := cE s 3 (Z57) (.slice A228_3 ((rd_T98 l0 x5_1).f3).length c228_3) J; replace M := cE s 3 (Z57) (.slice A228_3 ((rd_T98 l0 x5_1).f3).length c228_3) M; replace y := cE s 4 (Z58) (.slice O ((rd_T98 l0 x5_1).f4).length U) y; replace D := cE s 4 (Z58) (.slice O ((rd_T98 l0 x5_1).f4).length U) D; replace I := cE s 4 (Z58) (.slice O ((rd_T98 l0 x5_1).f4).length U) I; replace J := cE s 4 (Z58) (.slice O ((rd_T98 l0 x5_1).f4).length U) J; replace M := cE s 4 (Z58) (.slice O ((rd_T98 l0 x5_1).f4).length U) M; (try have dB := fun (n_ : Nat) => (show (((((((Z.drewN n_).setCell ⟨s, 0, none⟩ (.string ((rd_T98 l0 x5_1).f0))).setCell ⟨s, 1, none⟩ (.int .i64 ((rd_T98 l0 x5_1).f1))).setCell ⟨s, 2, none⟩ (.int .i64 ((rd_T98 l0 x5_1).f2))).setCell ⟨s, 3, none⟩ (.slice A228_3 ((rd_T98 l0 x5_1).f3).length c228_3)).setCell ⟨s, 4, none⟩ (.slice O ((rd_T98 l0 x5_1).f4).length U))).cell? _ = some _ from y)); (try have dC := fun (n_ : Nat) => (show (((((((Z.drewN n_).setCell ⟨s, 0, none⟩ (.string ((rd_T98 l0 x5_1).f0))).setCell ⟨s, 1, none⟩ (.int .i64 ((rd_T98 l0 x5_1).f1))).setCell ⟨s, 2, none⟩ (.int .i64 ((rd_T98 l0 x5_1).f2))).setCell ⟨s, 3, none⟩ (.slice A228_3 ((rd_T98 l0 x5_1).f3).length c228_3)).setCell ⟨s, 4, none⟩ (.slice O ((rd_T98 l0 x5_1).f4).length U))).cell? _ = some _ from D)); (try have dD := fun (n_ : Nat) => (show (((((((Z.drewN n_).setCell ⟨s, 0, none⟩ (.string ((rd_T98 l0 x5_1).f0))).setCell ⟨s, 1, none⟩ (.int .i64 ((rd_T98 l0 x5_1).f1))).setCell ⟨s, 2, none⟩ (.int .i64 ((rd_T98 l0 x5_1).f2))).setCell ⟨s, 3, none⟩ (.slice A228_3 ((rd_T98 l0 x5_1).f3).length c228_3)).setCell ⟨s, 4, none⟩ (.slice O ((rd_T98 l0 x5_1).f4).length U))).cell? _ = some _ from I)); (try have dE := fun (n_ : Nat) => (show (((((((Z.drewN n_).setCell ⟨s, 0, none⟩ (.string ((rd_T98 l0 x5_1).f0))).setCell ⟨s, 1, none⟩ (.int .i64 ((rd_T98 l0 x5_1).f1))).setCell ⟨s, 2, none⟩ (.int .i64 ((rd_T98 l0 x5_1).f2))).setCell ⟨s, 3, none⟩ (.slice A228_3 ((rd_T98 l0 x5_1).f3).length c228_3)).setCell ⟨s, 4, none⟩ (.slice O ((rd_T98 l0 x5_1).f4).length U))).cell? _ = some _ from J)); (try have dF := fun (n_ : Nat) => (show (((((((Z.drewN n_).setCell ⟨s, 0, none⟩ (.string ((rd_T98 l0 x5_1).f0))).setCell ⟨s, 1, none⟩ (.int .i64 ((rd_T98 l0 x5_1).f1))).setCell ⟨s, 2, none⟩ (.int .i64 ((rd_T98 l0 x5_1).f2))).setCell ⟨s, 3, none⟩ (.slice A228_3 ((rd_T98 l0 x5_1).f3).length c228_3)).setCell ⟨s, 4, none⟩ (.slice O ((rd_T98 l0 x5_1).f4).length U))).cell? _ = some _ from M)); clear hn230_0; clear hn230_1; clear hn230_2; clear hn230_3; clear hn230_4; replace aD := eq_true aD; replace aE := eq_true aE) | ((with_reducible refine gD 7 ?_); (try (refine gate_guard (Z117) ?_; dsimp only)); refine bxF w 7 #[.string (⟨#[]⟩ : ByteArray), .int .i64 0, .int .i64 0, .slice none 0 0, .slice none 0 0] 98 (Z72) ?_; intro aF hg dG BK231 dH GE231 HB hb; have NB229_231 := aM ((by rw [hg]; exact Nat.ne_of_lt (blk_lt (g := s) (o := .cells #[.string ((rd_T98 l0 x5_1).f0), .int .i64 ((rd_T98 l0 x5_1).f1), .int .i64 ((rd_T98 l0 x5_1).f2), .slice A228_3 ((rd_T98 l0 x5_1).f3).length c228_3, .slice O ((rd_T98 l0 x5_1).f4).length U] 98 (0, 0)) (Z5)) : s ≠ aF)); have aC := aM ((by rw [hg]; exact Nat.ne_of_gt (blk_lt (g := s) (o := .cells #[.string ((rd_T98 l0 x5_1).f0), .int .i64 ((rd_T98 l0 x5_1).f1), .int .i64 ((rd_T98 l0 x5_1).f2), .slice A228_3 ((rd_T98 l0 x5_1).f3).length c228_3, .slice O ((rd_T98 l0 x5_1).f4).length U] 98 (0, 0)) (Z5)) : aF ≠ s)); replace BK229 := aM (blk_below (g := s) (o := .cells #[.string ((rd_T98 l0 x5_1).f0), .int .i64 ((rd_T98 l0 x5_1).f1), .int .i64 ((rd_T98 l0 x5_1).f2), .slice A228_3 ((rd_T98 l0 x5_1).f3).length c228_3, .slice O ((rd_T98 l0 x5_1).f4).length U] 98 (0, 0)) (Z5) hb); clear hb hg; have dI := aC.out; have dJ := NB229_231.out; obtain ⟨dK, dL, dM, dN, dO⟩ := bc5 BK231.out; obtain ⟨dP, dQ, dR, dS, dT⟩ := bf5 BK231.out)))
     (try simp only [Act.put, List.setIfInBounds_toArray, List.set_cons_zero, List.set_cons_succ])
     go_cut [65] (fun d4 wc => ∃ (kq : Nat) (bX : Bool), d4 = .bool bX ∧ Aside0 (spec_l09Same.j1 kq l0 l1 x5_1 bX ((rd_T98 l0 x5_1).f0) ((rd_T98 l0 x5_1).f1) ((rd_T98 l0 x5_1).f2) ((rd_T98 l0 x5_1).f3) ((rd_T98 l0 x5_1).f4) ((rd_T98 l1 x5_1).f0) ((rd_T98 l1 x5_1).f1) ((rd_T98 l1 x5_1).f2) ((rd_T98 l1 x5_1).f3) ((rd_T98 l1 x5_1).f4) = some r) ∧ Aside0 (kq ≤ k1) ∧ Aside0 (wc.heap[s]? = some (.cells #[.string ((rd_T98 l0 x5_1).f0), .int .i64 ((rd_T98 l0 x5_1).f1), .int .i64 ((rd_T98 l0 x5_1).f2), (.slice A228_3 ((rd_T98 l0 x5_1).f3).length c228_3), (.slice O ((rd_T98 l0 x5_1).f4).length U)] 98 (0, 0))) ∧ Aside0 (wc.heap[aF]? = some (.cells #[.string ((rd_T98 l1 x5_1).f0), .int .i64 ((rd_T98 l1 x5_1).f1), .int .i64 ((rd_T98 l1 x5_1).f2), (.slice A230_3 ((rd_T98 l1 x5_1).f3).length c230_3), (.slice bI ((rd_T98 l1 x5_1).f4).length bJ)] 98 (0, 0))) ∧ Aside0 (Below w.heap.size w wc))
     case first =>
      have H := b1.out
      clear b1
      by_cases aL : ((rd_T98 l0 x5_1).f0).toList = ((rd_T98 l1 x5_1).f0).toList
      ·rw [if_pos aL] at H
       have bL := beq_iff_eq.mpr aL
       have b2 := bne_eq_false_iff_eq.mpr aL
       clear aL
       (first | rw [bL] | rw [b2] | (simp only [i64_w, i32_w]; rw [bL]) | skip)
       by_cases aN : ((rd_T98 l0 x5_1).f1) = ((rd_T98 l1 x5_1).f1)
       ·rw [if_pos aN] at H
        have d5 := beq_iff_eq.mpr aN
        have d6 := bne_eq_false_iff_eq.mpr aN
        clear aN
        by_cases aO : ((rd_T98 l0 x5_1).f2) = ((rd_T98 l1 x5_1).f2)
        ·rw [if_pos aO] at H
         have eA := beq_iff_eq.mpr aO
         have eB := bne_eq_false_iff_eq.mpr aO
         clear aO
         by_cases aG : (((rd_T98 l0 x5_1).f3).length : Int) = (((rd_T98 l1 x5_1).f3).length : Int)
         ·rw [if_pos aG] at H
          have eC := beq_iff_eq.mpr aG
          have eD := bne_eq_false_iff_eq.mpr aG
          have eE : (((rd_T98 l0 x5_1).f3).length == ((rd_T98 l1 x5_1).f3).length) = true := by first | simpa using aG | (simp at aG ⊢; omega)
          clear aG
          have H' := aM H
          clear H
          have eU := NB229_231.out
          have eV := aC.out
          refine bD5 BK229 ?_
          intros
          refine bD5 BK231 ?_
          intros
          go_wp2
          repeat (go_quiet (fail); try go_wp2)
          go_meet
          case rel => exact ⟨_, (((((rd_T98 l0 x5_1).f4).length : Int) != (((rd_T98 l1 x5_1).f4).length : Int))), (Z3), H', ⟨Z184⟩, ⟨Z22⟩, ⟨Z7⟩, ⟨Z35⟩⟩
         ·rw [if_neg aG] at H
          have eC := beq_eq_false_iff_ne.mpr aG
          have eD := bne_iff_ne.mpr aG
          have eE : (((rd_T98 l0 x5_1).f3).length == ((rd_T98 l1 x5_1).f3).length) = false := by first | simpa using aG | (simp at aG ⊢; omega)
          have H' := aM H
          clear H
          have eW := NB229_231.out
          have eX := aC.out
          refine bD5 BK229 ?_
          intros
          refine bD5 BK231 ?_
          intros
          go_wp2
          repeat (go_quiet (fail); try go_wp2)
          go_meet
          case rel => exact ⟨_, (true), (Z3), H', ⟨Z184⟩, ⟨Z22⟩, ⟨Z7⟩, ⟨Z35⟩⟩
        ·rw [if_neg aO] at H
         have eA := beq_eq_false_iff_ne.mpr aO
         have eB := bne_iff_ne.mpr aO
         have H' := aM H
         clear H
         have eY := NB229_231.out
         have eZ := aC.out
         refine bD5 BK229 ?_
         intros
         refine bD5 BK231 ?_
         intros
         go_wp2
         repeat (go_quiet (fail); try go_wp2)
         go_meet
         case rel => exact ⟨_, (true), (Z3), H', ⟨Z184⟩, ⟨Z22⟩, ⟨Z7⟩, ⟨Z35⟩⟩
       ·rw [if_neg aN] at H
        have d5 := beq_eq_false_iff_ne.mpr aN
        have d6 := bne_iff_ne.mpr aN
        have H' := aM H
        clear H
        have e0 := NB229_231.out
        have e1 := aC.out
        refine bD5 BK229 ?_
        intros
        refine bD5 BK231 ?_
        intros
        go_wp2
        repeat (go_quiet (fail); try go_wp2)
        go_meet
        case rel => exact ⟨_, (true), (Z3), H', ⟨Z184⟩, ⟨Z22⟩, ⟨Z7⟩, ⟨Z35⟩⟩
      ·rw [if_neg aL] at H
       have bL := beq_eq_false_iff_ne.mpr aL
       have b2 := bne_iff_ne.mpr aL
       (first | rw [bL] | rw [b2] | (simp only [i64_w, i32_w]; rw [bL]) | skip)
       have H' := aM H
       clear H
       have e2 := NB229_231.out
       have e3 := aC.out
       refine bD5 BK229 ?_
       intros
       refine bD5 BK231 ?_
       intros
       go_wp2
       repeat (go_quiet (fail); try go_wp2)
       go_meet
       case rel => exact ⟨_, (true), (Z3), H', ⟨Z184⟩, ⟨Z22⟩, ⟨Z7⟩, ⟨Z35⟩⟩
     case rest =>
      clear b1
      (try clear c1); (try clear c3); (try clear bA); (try clear bB); (try clear bC); (try clear c4); (try clear bU); (try clear c5); (try clear bZ); (try clear c6); (try clear b0); (try clear bD); (try clear bE); (try clear bF); (try clear bG); (try clear bH); (try clear y); (try clear D); (try clear I); (try clear J); (try clear M); (try clear aZ); (try clear aD); (try clear a2); (try clear aE)
      obtain ⟨kq, bX, rfl, HA, a3, BK229, BK231, HB⟩ := hcut
      cases kq with
      | zero => exact absurd HA.out (by simp [spec_l09Same.j1])
      | succ dU =>
       have H := HA.out
       clear HA
       simp only [spec_l09Same.j1] at H
       by_cases a5 : bX = true
       ·subst a5
        replace H := ifT H
        obtain rfl := oI H
        go_wp2
        repeat (go_quiet (fail); try go_wp2)
        go_ret
        exact ⟨Z1, Z35⟩
       ·replace a5 := Bool.eq_false_iff.mpr a5
        subst a5
        replace H := ifF H
        have H' := aM H
        clear H
        go_wp2
        repeat (go_quiet (fail); try go_wp2)
        go_loopg [8] dU (fun kq v8 w' => ∃ (X : Int), v8 = .int .i64 X ∧ Aside0 (spec_l09Same.l1 kq l0 l1 x5_1 X ((rd_T98 l0 x5_1).f0) ((rd_T98 l0 x5_1).f1) ((rd_T98 l0 x5_1).f2) ((rd_T98 l0 x5_1).f3) ((rd_T98 l0 x5_1).f4) ((rd_T98 l1 x5_1).f0) ((rd_T98 l1 x5_1).f1) ((rd_T98 l1 x5_1).f2) ((rd_T98 l1 x5_1).f3) ((rd_T98 l1 x5_1).f4) = some r) ∧ Aside0 (kq ≤ dU) ∧ Aside0 (w'.heap[s]? = some (.cells #[.string ((rd_T98 l0 x5_1).f0), .int .i64 ((rd_T98 l0 x5_1).f1), .int .i64 ((rd_T98 l0 x5_1).f2), (.slice A228_3 ((rd_T98 l0 x5_1).f3).length c228_3), (.slice O ((rd_T98 l0 x5_1).f4).length U)] 98 (0, 0))) ∧ Aside0 (w'.heap[aF]? = some (.cells #[.string ((rd_T98 l1 x5_1).f0), .int .i64 ((rd_T98 l1 x5_1).f1), .int .i64 ((rd_T98 l1 x5_1).f2), (.slice A230_3 ((rd_T98 l1 x5_1).f3).length c230_3), (.slice bI ((rd_T98 l1 x5_1).f4).length bJ)] 98 (0, 0))) ∧ Aside0 (Below w.heap.size w w'))
        case atStart => exact ⟨(0), (Z3), H', ⟨Nat.le_refl _⟩, ⟨Z176⟩, ⟨Z177⟩, ⟨Z35⟩⟩
        case round =>
         clear H'
         (try clear c1); (try clear c3); (try clear bA); (try clear bB); (try clear bC); (try clear c4); (try clear bU); (try clear c5); (try clear bZ); (try clear c6); (try clear b0); (try clear a5); (try clear bD); (try clear bE); (try clear bF); (try clear bG); (try clear bH); (try clear y); (try clear D); (try clear I); (try clear J); (try clear M); (try clear aZ); (try clear aD); (try clear a2); (try clear aE)
         obtain ⟨X, rfl, HA, a6, BK229, BK231, HB⟩ := hrel
         cases gk with
         | zero => exact absurd HA.out (by simp [spec_l09Same.l1])
         | succ k3 =>
          have H := HA.out
          clear HA
          simp only [spec_l09Same.l1] at H
          by_cases aP : X < (((rd_T98 l0 x5_1).f3).length : Int)
          ·rw [if_pos aP] at H
           have dV := decide_eq_true aP
           clear aP
           obtain ⟨dW, H⟩ := ifS H
           have e4 := decide_eq_true dW
           clear dW
           obtain ⟨dX, H⟩ := ifS H
           have e5 := decide_eq_true dX
           clear dX
           by_cases a7 : (!(((rd_T109 ((rd_T98 l0 x5_1).f3) X).f0) == ((rd_T109 ((rd_T98 l1 x5_1).f3) X).f0)) || (!(((rd_T109 ((rd_T98 l0 x5_1).f3) X).f1) == ((rd_T109 ((rd_T98 l1 x5_1).f3) X).f1)) || (!((((rd_T109 ((rd_T98 l0 x5_1).f3) X).f2).toList) == (((rd_T109 ((rd_T98 l1 x5_1).f3) X).f2).toList))))) = true
           ·rw [if_pos a7] at H
            have eG : (!(((rd_T109 ((rd_T98 l0 x5_1).f3) X).f0) == ((rd_T109 ((rd_T98 l1 x5_1).f3) X).f0)) || (!(((rd_T109 ((rd_T98 l0 x5_1).f3) X).f1) == ((rd_T109 ((rd_T98 l1 x5_1).f3) X).f1)) || (!((((rd_T109 ((rd_T98 l0 x5_1).f3) X).f2).toList) == (((rd_T109 ((rd_T98 l1 x5_1).f3) X).f2).toList))))) = true := a7
            clear a7
            obtain rfl := oI H
            have e6 := NB229_231.out
            have e7 := aC.out
            refine bD5 BK229 ?_
            intros
            have aQ : 0 ≤ (X : Int) := of_decide_eq_true (Z4)
            have aR : X < (((rd_T98 l0 x5_1).f3).length : Int) := of_decide_eq_true (Z4)
            obtain ⟨eH, b7, bM, bN, bO⟩ := at_T109 cM.out X aQ aR
            cases b7
            replace bM := cB HB.out bM
            replace bN := cB HB.out bN
            replace bO := cB HB.out bO
            replace aQ := eq_true aQ
            replace aR := eq_true aR
            refine bD5 BK231 ?_
            intros
            have aS : 0 ≤ (X : Int) := of_decide_eq_true (Z4)
            have aT : X < (((rd_T98 l1 x5_1).f3).length : Int) := of_decide_eq_true (Z4)
            obtain ⟨eI, b8, bP, bQ, bR⟩ := at_T109 bV.out X aS aT
            cases b8
            replace bP := cB HB.out bP
            replace bQ := cB HB.out bQ
            replace bR := cB HB.out bR
            replace aS := eq_true aS
            replace aT := eq_true aT
            go_wp2
            repeat (go_quiet (fail); try go_wp2)
            go_ret
            exact ⟨Z1, Z35⟩
           ·rw [if_neg a7] at H
            have eG : (!(((rd_T109 ((rd_T98 l0 x5_1).f3) X).f0) == ((rd_T109 ((rd_T98 l1 x5_1).f3) X).f0)) || (!(((rd_T109 ((rd_T98 l0 x5_1).f3) X).f1) == ((rd_T109 ((rd_T98 l1 x5_1).f3) X).f1)) || (!((((rd_T109 ((rd_T98 l0 x5_1).f3) X).f2).toList) == (((rd_T109 ((rd_T98 l1 x5_1).f3) X).f2).toList))))) = false := by simpa using a7
            clear a7
            have H' := aM H
            clear H
            have e8 := NB229_231.out
            have e9 := aC.out
            refine bD5 BK229 ?_
            intros
            have aQ : 0 ≤ (X : Int) := of_decide_eq_true (Z4)
            have aR : X < (((rd_T98 l0 x5_1).f3).length : Int) := of_decide_eq_true (Z4)
            obtain ⟨eH, b7, bM, bN, bO⟩ := at_T109 cM.out X aQ aR
            cases b7
            replace bM := cB HB.out bM
            replace bN := cB HB.out bN
            replace bO := cB HB.out bO
            replace aQ := eq_true aQ
            replace aR := eq_true aR
            refine bD5 BK231 ?_
            intros
            have aS : 0 ≤ (X : Int) := of_decide_eq_true (Z4)
            have aT : X < (((rd_T98 l1 x5_1).f3).length : Int) := of_decide_eq_true (Z4)
            obtain ⟨eI, b8, bP, bQ, bR⟩ := at_T109 bV.out X aS aT
            cases b8
            replace bP := cB HB.out bP
            replace bQ := cB HB.out bQ
            replace bR := cB HB.out bR
            replace aS := eq_true aS
            replace aT := eq_true aT
            go_wp2
            repeat (go_quiet (fail); try go_wp2)
            go_roundg k3
            case measure => have := HK1.out; have := a3.out; have := a6.out; omega
            case rel => exact ⟨(wrap64 (X + 1)), (Z3), H', ⟨by have := HK1.out; have := a3.out; have := a6.out; omega⟩, ⟨Z176⟩, ⟨Z177⟩, ⟨Z35⟩⟩
          ·rw [if_neg aP] at H
           have dV := decide_eq_false aP
           clear aP
           have H' := aM H
           clear H
           have fA := NB229_231.out
           have fB := aC.out
           refine bD5 BK229 ?_
           intros
           go_wp2
           repeat (go_quiet (fail); try go_wp2)
           go_loopg [9] k3 (fun kq v9 w' => ∃ (Y : Int), v9 = .int .i64 Y ∧ Aside0 (spec_l09Same.l2 kq l0 l1 x5_1 Y ((rd_T98 l0 x5_1).f0) ((rd_T98 l0 x5_1).f1) ((rd_T98 l0 x5_1).f2) ((rd_T98 l0 x5_1).f3) ((rd_T98 l0 x5_1).f4) ((rd_T98 l1 x5_1).f0) ((rd_T98 l1 x5_1).f1) ((rd_T98 l1 x5_1).f2) ((rd_T98 l1 x5_1).f3) ((rd_T98 l1 x5_1).f4) = some r) ∧ Aside0 (kq ≤ k3) ∧ Aside0 (w'.heap[s]? = some (.cells #[.string ((rd_T98 l0 x5_1).f0), .int .i64 ((rd_T98 l0 x5_1).f1), .int .i64 ((rd_T98 l0 x5_1).f2), (.slice A228_3 ((rd_T98 l0 x5_1).f3).length c228_3), (.slice O ((rd_T98 l0 x5_1).f4).length U)] 98 (0, 0))) ∧ Aside0 (w'.heap[aF]? = some (.cells #[.string ((rd_T98 l1 x5_1).f0), .int .i64 ((rd_T98 l1 x5_1).f1), .int .i64 ((rd_T98 l1 x5_1).f2), (.slice A230_3 ((rd_T98 l1 x5_1).f3).length c230_3), (.slice bI ((rd_T98 l1 x5_1).f4).length bJ)] 98 (0, 0))) ∧ Aside0 (Below w.heap.size w w'))
           case atStart => exact ⟨(0), (Z3), H', ⟨Nat.le_refl _⟩, ⟨Z176⟩, ⟨Z177⟩, ⟨Z35⟩⟩
           case round =>
            clear H'
            (try clear c1); (try clear c3); (try clear bA); (try clear bB); (try clear bC); (try clear c4); (try clear bU); (try clear c5); (try clear bZ); (try clear c6); (try clear b0); (try clear a5); (try clear aP); (try clear dV); (try clear bD); (try clear bE); (try clear bF); (try clear bG); (try clear bH); (try clear y); (try clear D); (try clear I); (try clear J); (try clear M); (try clear aZ); (try clear aD); (try clear a2); (try clear aE)
            obtain ⟨Y, rfl, HA, bY, BK229, BK231, HB⟩ := hrel
            cases gk with
            | zero => exact absurd HA.out (by simp [spec_l09Same.l2])
            | succ k4 =>
             have H := HA.out
             clear HA
             simp only [spec_l09Same.l2] at H
             by_cases a8 : Y < (((rd_T98 l0 x5_1).f4).length : Int)
             ·rw [if_pos a8] at H
              have eK := decide_eq_true a8
              clear a8
              obtain ⟨dZ, H⟩ := ifS H
              have fC := decide_eq_true dZ
              clear dZ
              obtain ⟨d0, H⟩ := ifS H
              have fD := decide_eq_true d0
              clear d0
              by_cases aU : (rdOf ByteArray.empty ((rd_T98 l0 x5_1).f4) Y).toList = (rdOf ByteArray.empty ((rd_T98 l1 x5_1).f4) Y).toList
              ·rw [if_pos aU] at H
               have eL := beq_iff_eq.mpr aU
               have eM := bne_eq_false_iff_eq.mpr aU
               clear aU
               have H' := aM H
               clear H
               have fE := NB229_231.out
               have fF := aC.out
               refine bD5 BK229 ?_
               intros
               have aV : 0 ≤ (Y : Int) := of_decide_eq_true (Z4)
               have aW : Y < (((rd_T98 l0 x5_1).f4).length : Int) := of_decide_eq_true (Z4)
               obtain ⟨eN, b9, bS⟩ := Kd.at_string cN.out Y aV aW
               cases b9
               replace bS := cB HB.out bS
               replace aV := eq_true aV
               replace aW := eq_true aW
               refine bD5 BK231 ?_
               intros
               have aX : 0 ≤ (Y : Int) := of_decide_eq_true (Z4)
               have aY : Y < (((rd_T98 l1 x5_1).f4).length : Int) := of_decide_eq_true (Z4)
               obtain ⟨eO, cA, bT⟩ := Kd.at_string bW.out Y aX aY
               cases cA
               replace bT := cB HB.out bT
               replace aX := eq_true aX
               replace aY := eq_true aY
               go_wp2
               repeat (go_quiet (fail); try go_wp2)
               go_roundg k4
               case measure => have := HK1.out; have := a3.out; have := a6.out; have := bY.out; omega
               case rel => exact ⟨(wrap64 (Y + 1)), (Z3), H', ⟨by have := HK1.out; have := a3.out; have := a6.out; have := bY.out; omega⟩, ⟨Z176⟩, ⟨Z177⟩, ⟨Z35⟩⟩
              ·rw [if_neg aU] at H
               have eL := beq_eq_false_iff_ne.mpr aU
               have eM := bne_iff_ne.mpr aU
               obtain rfl := oI H
               have fG := NB229_231.out
               have fH := aC.out
               refine bD5 BK229 ?_
               intros
               have aV : 0 ≤ (Y : Int) := of_decide_eq_true (Z4)
               have aW : Y < (((rd_T98 l0 x5_1).f4).length : Int) := of_decide_eq_true (Z4)
               obtain ⟨eN, b9, bS⟩ := Kd.at_string cN.out Y aV aW
               cases b9
               replace bS := cB HB.out bS
               replace aV := eq_true aV
               replace aW := eq_true aW
               refine bD5 BK231 ?_
               intros
               have aX : 0 ≤ (Y : Int) := of_decide_eq_true (Z4)
               have aY : Y < (((rd_T98 l1 x5_1).f4).length : Int) := of_decide_eq_true (Z4)
               obtain ⟨eO, cA, bT⟩ := Kd.at_string bW.out Y aX aY
               cases cA
               replace bT := cB HB.out bT
               replace aX := eq_true aX
               replace aY := eq_true aY
               go_wp2
               repeat (go_quiet (fail); try go_wp2)
               go_ret
               exact ⟨Z1, Z35⟩
             ·rw [if_neg a8] at H
              have eK := decide_eq_false a8
              clear a8
              have H' := aM H
              clear H
              have fJ := NB229_231.out
              have fK := aC.out
              refine bD5 BK229 ?_
              intros
              go_wp2
              repeat (go_quiet (fail); try go_wp2)
              go_roundg k4
              case measure => have := HK1.out; have := a3.out; have := a6.out; have := bY.out; omega
              case rel => exact ⟨(wrap64 (x5_1 + 1)), (Z3), H', ⟨by have := HK1.out; have := a3.out; have := a6.out; have := bY.out; omega⟩, ⟨Z35⟩⟩
    ·rw [if_neg c4] at H
     have bU := decide_eq_false c4
     clear c4
     obtain rfl := oI H
     go_wp2
     repeat (go_quiet (fail); try go_wp2)
     go_ret
     exact ⟨Z1, Z0⟩
 ·rw [if_neg c3] at H
  have bA := beq_eq_false_iff_ne.mpr c3
  have bB := bne_iff_ne.mpr c3
  have bC : (l0.length == l1.length) = false := by first | simpa using c3 | (simp at c3 ⊢; omega)
  obtain rfl := oI H
  go_enter func28, ntmps28
  go_wp2
  repeat (go_quiet (fail); try go_wp2)
  go_ret
  exact ⟨Z1, Z0⟩
end Go.Proofs.YtifkmkiljpeaaacGreat.PFnExactWorldOK
