import Derived.Test.YtifkmkiljpeaaadGreatPFnExactCommitxA
import Derived.Test.YtifkmkiljpeaaadGreatPFnExactCommitxD
import Derived.Test.YtifkmkiljpeaaadGreatPFnExactCommitxE
set_option maxHeartbeats 40000000
set_option maxRecDepth 100000
namespace Go.Proofs.YtifkmkiljpeaaadGreat.PFnExactCommit
open Go.RowKit Go.Proofs.YtifkmkiljpeaaadGreatW.PrintWords Go.Proofs.YtifkmkiljpeaaadGreatW.PrintLast Go.Proofs.YtifkmkiljpeaaadGreatW.PrintMore Go.Proofs.YtifkmkiljpeaaadGreat.Mac Go.Proofs.Tryz
set_option linter.unusedVariables false
set_option linter.unusedSimpArgs false
def eh.j0 : Nat -> Bool -> Int -> ByteArray -> Int -> List (S82) -> Option (Bool)
 | 0, _, _, _, _, _ => none
 | k + 1, J, s, y, D, M => if J = true then (some false) else ((eo.f s y D).bind fun O => (if O.2.2 = 0 then ((fy.f k s y D).bind fun I => (if I.2.2 = 0 then ((gr.f k I.1 M).bind fun U => (some U)) else (some false))) else (some false)))
def eh.f (k : Nat) (D : Int) (s : ByteArray) (y : Int) (l0_3 : List (S82)) : Option (Bool) := (impl_LogOK.f D s y).bind fun I => (if I = true then (if y = (s.size : Int) then ((eu.f k l0_3).bind fun J => (eh.j0 k (!J) D s y l0_3)) else (eh.j0 k true D s y l0_3)) else (eh.j0 k true D s y l0_3))
theorem eh.calls (k : Nat) (D : Int) (s : ByteArray) (y : Int) (X : Option Addr) (Y : Nat) (l0_3 : List (S82)) (r : Bool) (w : World) (Z : Kd.C k82 w X l0_3.length l0_3) (aA : l0_3.length <= Y) (h : eh.f k D s y l0_3 = some r) :
  Calls prog 24 #[.agg #[.int .i64 D, .string s, .int .i64 y, .slice X l0_3.length Y]] w fun e w' => e = .returned (.bool r) /\ Below w.heap.size w w' := by
 have a7 := underlying35
 have a8 := underlying32
 replace Z := aM Z
 replace aA := aM aA
 have HB := aM (bi w.heap.size w)
 have H := h
 clear h
 unfold eh.f at H
 have aE := aM H
 clear H
 go_enter func24, ntmps24
 go_upto_region 1 with (first | ((with_reducible refine gD 1 ?_); (try (refine dl (Z96) ?_; dsimp only)); refine bxF w 1 #[.int .i64 D, .string s, .int .i64 y, .slice X l0_3.length Y] 35 (Z0) ?_; intro aS hg w3 BK398 a9 GE398 HB hb; clear hb hg))
 (try simp only [Act.put, List.setIfInBounds_toArray, List.set_cons_zero, List.set_cons_succ])
 go_cut [28] (fun aT wc => ∃ (kq : Nat) (aB : Bool), aT = .bool aB /\ ap (eh.j0 kq aB D s y l0_3 = some r) /\ ap (kq <= k) /\ ap (wc.heap[aS]? = some (.cells #[.int .i64 D, .string s, .int .i64 y, (.slice X l0_3.length Y)] 35 (0, 0))) /\ ap (Below w.heap.size w wc))
 case first =>
  have H := aE.out
  clear aE
  obtain ⟨aU, A4, H⟩ := cz H
  try dsimp only at H
  by_cases c5 : aU = true
  ·subst c5
   replace H := ifT H
   by_cases c6 : y = (s.size : Int)
   ·rw [if_pos c6] at H
    have U := bf c6
    have aG := bc c6
    clear c6
    (first | rw [U] | rw [aG] | (simp only [i64_w, i32_w]; rw [U]) | skip)
    obtain ⟨aO, A7, H⟩ := cz H
    try dsimp only at H
    have H' := aM H
    clear H
    refine bD4 BK398 ?_
    intros
    go_wp2_with (first | ((with_reducible refine gC 45 ?_); refine gL 11 func45 #[.agg #[.int .i64 D, .string s, .int .i64 y]] ?_; (with_reducible refine (impl_LogOK.calls D s y true _ A4.out).mono ?_); rintro e w9 ⟨rfl, hb⟩; refine ⟨_, rfl, ?_⟩; replace BK398 := aM (kB BK398 (Z58) hb); replace HB := aM (ae (Z23) hb); (try clear hb); refine bD4 BK398 ?_; intros) | (go_at_call 46; (with_reducible refine (eu.calls k _ _ l0_3 aO _ ?Y1 ?Y2 A7.out).mono ?_); (case Y1 => have h_ := Kd.C_below Z.out HB.out; exact tC); (case Y2 => exact aA.out); rintro e bB ⟨rfl, hb⟩; replace BK398 := aM (kB BK398 (Z58) hb); replace HB := aM (ae (Z23) hb); (try clear hb)))
    go_meet
    case rel => exact ⟨_, (!aO), (Z3), H', ⟨Z82⟩, ⟨Z58⟩, ⟨Z23⟩⟩
   rw [if_neg c6] at H
   have U := bb c6
   have aG := bg c6
   (first | rw [U] | rw [aG] | (simp only [i64_w, i32_w]; rw [U]) | skip)
   have H' := aM H
   clear H
   refine bD4 BK398 ?_
   intros
   go_wp2_with (first | ((with_reducible refine gC 45 ?_); refine gL 11 func45 #[.agg #[.int .i64 D, .string s, .int .i64 y]] ?_; (with_reducible refine (impl_LogOK.calls D s y true _ A4.out).mono ?_); rintro e bC ⟨rfl, hb⟩; refine ⟨_, rfl, ?_⟩; replace BK398 := aM (kB BK398 (Z58) hb); replace HB := aM (ae (Z23) hb); (try clear hb); refine bD4 BK398 ?_; intros))
   go_meet
   case rel => exact ⟨_, (true), (Z3), H', ⟨Z82⟩, ⟨Z58⟩, ⟨Z23⟩⟩
  replace c5 := be c5
  subst c5
  replace H := ifF H
  have H' := aM H
  clear H
  refine bD4 BK398 ?_
  intros
  go_wp2_with (first | ((with_reducible refine gC 45 ?_); refine gL 11 func45 #[.agg #[.int .i64 D, .string s, .int .i64 y]] ?_; (with_reducible refine (impl_LogOK.calls D s y false _ A4.out).mono ?_); rintro e bD ⟨rfl, hb⟩; refine ⟨_, rfl, ?_⟩; replace BK398 := aM (kB BK398 (Z58) hb); replace HB := aM (ae (Z23) hb); (try clear hb)))
  go_meet
  case rel => exact ⟨_, (true), (Z3), H', ⟨Z82⟩, ⟨Z58⟩, ⟨Z23⟩⟩
 case rest =>
  clear aE
  obtain ⟨kq, aB, rfl, HA, HJ1, BK398, HB⟩ := hcut
  cases kq with
  | zero => exact absurd HA.out (by simp [eh.j0])
  | succ aH =>
   have H := HA.out
   clear HA
   simp only [eh.j0] at H
   by_cases aC : aB = true
   ·subst aC
    replace H := ifT H
    obtain rfl := oI H
    go_wp2
    go_ret
    exact ⟨Z1, Z23⟩
   replace aC := be aC
   subst aC
   replace H := ifF H
   obtain ⟨⟨aI, aJ, aD⟩, aK, H⟩ := cz H
   try dsimp only at H
   by_cases J : aD = 0
   ·rw [if_pos J] at H
    have aW := bf J
    have aX := bc J
    clear J
    obtain ⟨⟨aL, aP, aN⟩, aQ, H⟩ := cz H
    try dsimp only at H
    by_cases M : aN = 0
    ·rw [if_pos M] at H
     have aY := bf M
     have aZ := bc M
     clear M
     obtain ⟨a2, a3, H⟩ := cz H
     try dsimp only at H
     obtain rfl := oI H
     refine bD4 BK398 ?_
     intros
     go_wp2_with (first | ((with_reducible refine gC 47 ?_); refine gL 32 func47 #[.agg #[.int .i64 D, .string s, .int .i64 y]] ?_; (with_reducible refine (eo.calls D s y aI aJ aD _ aK.out).mono ?_); rintro e bE ⟨aR, rfl, I, hb⟩; refine ⟨_, rfl, ?_⟩; have HO403 := aM (Kd.R_lower I (ct (Z23))); replace BK398 := aM (kB BK398 (Z58) hb); replace HB := aM (ae (Z23) hb); (try clear hb); (try clear I); refine bD4 BK398 ?_; intros) | ((with_reducible refine gC 48 ?_); refine gL 41 func48 #[.agg #[.int .i64 D, .string s, .int .i64 y]] ?_; (with_reducible refine (fy.calls aH D s y aL aP aN _ aQ.out).mono ?_); rintro e bF ⟨a5, rfl, I, hb⟩; refine ⟨_, rfl, ?_⟩; have O := aM (Kd.S_lower (Kd.S_new' I (Kd.R_lt (Z135))) (ct (Z23))); replace HO403 := aM (Kd.R_below (Z135) hb); replace BK398 := aM (kB BK398 (Z58) hb); replace HB := aM (ae (Z23) hb); (try clear hb); (try clear I); refine bD4 BK398 ?_; intros; obtain ⟨bG, bH, a6⟩ := Kd.S_slice O.out; subst a6) | (go_at_call 49; (with_reducible refine (gr.calls aH _ _ aL _ _ l0_3 a2 _ ?Y1 ?Y2 ?Y3 ?Y4 a3.out).mono ?_); (case Y1 => have h_ := (Kd.S_reads' O.out).2.2; exact tC); (case Y2 => exact (Kd.S_reads' O.out).2.1); (case Y3 => have h_ := Kd.C_below Z.out HB.out; exact tC); (case Y4 => exact aA.out); rintro e bI ⟨rfl, hb⟩; replace HO403 := aM (Kd.R_below (Z135) hb); replace O := aM (Kd.S_below (by (with_reducible repeat (first | apply Kd.S_alloc | apply Kd.S_drewN | apply Kd.S_drew)); exact O.out) hb); replace BK398 := aM (kB BK398 (Z58) hb); replace HB := aM (ae (Z23) hb); (try clear hb)))
     go_ret
     exact ⟨Z1, Z23⟩
    rw [if_neg M] at H
    have aY := bb M
    have aZ := bg M
    obtain rfl := oI H
    refine bD4 BK398 ?_
    intros
    go_wp2_with (first | ((with_reducible refine gC 47 ?_); refine gL 32 func47 #[.agg #[.int .i64 D, .string s, .int .i64 y]] ?_; (with_reducible refine (eo.calls D s y aI aJ aD _ aK.out).mono ?_); rintro e bJ ⟨aR, rfl, I, hb⟩; refine ⟨_, rfl, ?_⟩; have HO403 := aM (Kd.R_lower I (ct (Z23))); replace BK398 := aM (kB BK398 (Z58) hb); replace HB := aM (ae (Z23) hb); (try clear hb); (try clear I); refine bD4 BK398 ?_; intros) | ((with_reducible refine gC 48 ?_); refine gL 41 func48 #[.agg #[.int .i64 D, .string s, .int .i64 y]] ?_; (with_reducible refine (fy.calls aH D s y aL aP aN _ aQ.out).mono ?_); rintro e bK ⟨a5, rfl, I, hb⟩; refine ⟨_, rfl, ?_⟩; have O := aM (Kd.S_lower (Kd.S_new' I (Kd.R_lt (Z135))) (ct (Z23))); replace HO403 := aM (Kd.R_below (Z135) hb); replace BK398 := aM (kB BK398 (Z58) hb); replace HB := aM (ae (Z23) hb); (try clear hb); (try clear I)))
    go_ret
    exact ⟨Z1, Z23⟩
   rw [if_neg J] at H
   have aW := bb J
   have aX := bg J
   obtain rfl := oI H
   refine bD4 BK398 ?_
   intros
   go_wp2_with (first | ((with_reducible refine gC 47 ?_); refine gL 32 func47 #[.agg #[.int .i64 D, .string s, .int .i64 y]] ?_; (with_reducible refine (eo.calls D s y aI aJ aD _ aK.out).mono ?_); rintro e bL ⟨aR, rfl, I, hb⟩; refine ⟨_, rfl, ?_⟩; have HO403 := aM (Kd.R_lower I (ct (Z23))); replace BK398 := aM (kB BK398 (Z58) hb); replace HB := aM (ae (Z23) hb); (try clear hb); (try clear I)))
   go_ret
   exact ⟨Z1, Z23⟩
def impl_Stored_123.f (l : List S113) : Option (List S113) := if l.length < 4398046511104 then some l else none
theorem impl_Stored_123.calls (s : Option Addr) (c0 : Nat) (l0 r : List S113) (w : World) (hr0 : Kd.C k113 w s l0.length l0) (I : l0.length <= c0) (h : impl_Stored_123.f l0 = some r) :
  Calls prog 123 #[.slice s l0.length c0] w fun e w' => ∃ v0_ : Value, e = .returned (v0_) /\ Kd.R k113 113 w' w.heap.size (fun _ => True) v0_ r /\ Below w.heap.size w w' := by
 unfold impl_Stored_123.f at h
 split at h
 case isFalse => cases h
 rename_i hl
 obtain rfl := Option.some.inj h
 have HR := aM hr0
 have HL := aM hl
 have hno : s = none -> l0 = [] := fun e => by
  cases l0 with
  | nil => rfl
  | cons x t => obtain ⟨a, y, _⟩ := hr0.2.2 (fg); rw [e] at y; cases y
 have hq : ∀ (W : World) (a : Option Addr) (n c : Nat), (binOp .eql 80 (.slice a n c) (.slice none 0 0)).run prog W = .ok (.bool a.isNone) W := fun W a n c => Lib.run_eql_slice_nil W _ _ a n c 0 0 underlying80
 clear h hr0 hl I
 go_enter func123, ntmps123
 cases s with
 | none =>
  obtain rfl := hno rfl
  have J := hq w none 0 c0
  clear hq
  go_wp2
  go_ret
  exact ⟨_, rfl, Kd.R_nil .., bi _ _⟩
 | some a =>
  have J := hq w (some a) l0.length c0
  clear hno hq
  go_wp2_with (first | ((with_reducible refine gD 5 ?_); refine Kd.R_lit k113 _ 113 ?hg (N := 5) ?hd (xs := ([] : List S113)) (inner := []) (ok := fun _ => True) (okp := fun _ => True) ?hr ?hp (fun _ hk => hk) trivial (bi _ _) (bj _) (fg) ?_; (case hd => rfl); (case hg => rfl); (case hr => first | (go_simp; done) | (go_simp; rfl)); (case hp => exact (fc.none _ _)); intro M w1 ho hb hg_ hnew_; have HO := aM ho; have HB := aM hb; clear hg_ hnew_ ho hb) | ((with_reducible refine gate_builtin (b := .append) (xs := #[.tmp 5, .tmp 6]) rfl ?_); at_builtin; refine Kd.R_append_rows k113 (w0 := w) w.heap.size rfl (.tmp 5) (.tmp 6) 80 113 (.agg #[(.int .i64 0), (.int .i64 0), (.string ⟨#[]⟩)]) 32 rfl underlying80 info113 rfl (Z68) (Z31) M ([] : List S113) l0 _ _ _ (fun _ => True) (fun _ => False) rfl rfl ?aO ?aR (fun _ _ h => h) (fun _ h => h.elim) ?aF ?aB ?aS ?aL ?_; (case aR => exact Kd.C_below HR.out HB.out); (case aB => exact HB.out); (case aF => exact (fun _ _ => trivial)); (case aO => exact HO.out); (case aS => exact HB.out.size); (case aL => have := HL.out; simp; omega); intro U w2 ho hb hg hat; have D := aM ho; have HB2 := aM hb; clear ho hb hg hat; obtain ⟨X, Y, O⟩ := Kd.R_slice D.out; subst O))
  go_ret
  exact ⟨_, rfl, D.out, HB2.out⟩
def fj.f (l : List ByteArray) : Option (List ByteArray) := if l.length < 8796093022208 then some l else none
theorem fj.calls (s : Option Addr) (c0 : Nat) (l0 r : List ByteArray) (w : World) (hr0 : Kd.C Kd.string w s l0.length l0) (I : l0.length <= c0) (h : fj.f l0 = some r) :
  Calls prog 124 #[.slice s l0.length c0] w fun e w' => ∃ v0_ : Value, e = .returned (v0_) /\ Kd.R Kd.string 9 w' w.heap.size (fun _ => True) v0_ r /\ Below w.heap.size w w' := by
 unfold fj.f at h
 split at h
 case isFalse => cases h
 rename_i hl
 obtain rfl := Option.some.inj h
 have HR := aM hr0
 have HL := aM hl
 have hno : s = none -> l0 = [] := fun e => by
  cases l0 with
  | nil => rfl
  | cons x t => obtain ⟨a, y, _⟩ := hr0.2.2 (fg); rw [e] at y; cases y
 have hq : ∀ (W : World) (a : Option Addr) (n c : Nat), (binOp .eql 66 (.slice a n c) (.slice none 0 0)).run prog W = .ok (.bool a.isNone) W := fun W a n c => Lib.run_eql_slice_nil W _ _ a n c 0 0 underlying66
 clear h hr0 hl I
 go_enter func124, ntmps124
 cases s with
 | none =>
  obtain rfl := hno rfl
  have J := hq w none 0 c0
  clear hq
  go_wp2
  go_ret
  exact ⟨_, rfl, Kd.R_nil .., bi _ _⟩
 | some a =>
  have J := hq w (some a) l0.length c0
  clear hno hq
  go_wp2_with (first | ((with_reducible refine gD 5 ?_); refine Kd.R_lit Kd.string _ 9 ?hg (N := 5) ?hd (xs := ([] : List ByteArray)) (inner := []) (ok := fun _ => True) (okp := fun _ => True) ?hr ?hp (fun _ hk => hk) trivial (bi _ _) (bj _) (fg) ?_; (case hd => rfl); (case hg => rfl); (case hr => first | (go_simp; done) | (go_simp; rfl)); (case hp => exact (fc.none _ _)); intro M w1 ho hb hg_ hnew_; have HO := aM ho; have HB := aM hb; clear hg_ hnew_ ho hb) | ((with_reducible refine gate_builtin (b := .append) (xs := #[.tmp 5, .tmp 6]) rfl ?_); at_builtin; refine Kd.R_append_rows Kd.string (w0 := w) w.heap.size rfl (.tmp 5) (.tmp 6) 66 9 (.string ⟨#[]⟩) 16 rfl underlying66 info9 rfl (Z68) (Z31) M ([] : List ByteArray) l0 _ _ _ (fun _ => True) (fun _ => False) rfl rfl ?aO ?aR (fun _ _ h => h) (fun _ h => h.elim) ?aF ?aB ?aS ?aL ?_; (case aR => exact Kd.C_below HR.out HB.out); (case aB => exact HB.out); (case aF => exact (fun _ _ => trivial)); (case aO => exact HO.out); (case aS => exact HB.out.size); (case aL => have := HL.out; simp; omega); intro U w2 ho hb hg hat; have D := aM ho; have HB2 := aM hb; clear ho hb hg hat; obtain ⟨X, Y, O⟩ := Kd.R_slice D.out; subst O))
  go_ret
  exact ⟨_, rfl, D.out, HB2.out⟩
def ey.f (s : ByteArray) (y : Int) (D : Int) (l0_3 : List (S113)) (I : List ByteArray) : Option (ByteArray × Int × Int × (List (S113)) × List ByteArray) := (impl_Stored_123.f l0_3).bind fun J => ((fj.f I).bind fun M => (some (s, y, D, J, M)))
def ey.T1 : Bool × List (List Nat × List Nat) := (true, [([], []), ([0], [0]), ([1], [1]), ([], []), ([3], [3]), ([4, 2], [4]), ([0, 1, 2, 3, 4], []), ([6, 2, 5, 0, 1, 2, 3, 4], [2, 6]), ([0, 1, 2, 3, 4, 5, 6, 7], []), ([8, 5, 7, 0, 1, 2, 3, 4, 5, 6, 7], [5, 8])])
def ey.B1 : List Nat := [0, 1, 3, 0, 8, 31, 31, 127, 255, 511]
theorem ey.tab1 : rtab .any (opsOf Tryz.f99 1) = ey.T1 := by kernel_rfl
theorem ey.bits1 : waitsOk ey.T1.2 ey.B1 = true := by kernel_rfl
theorem ey.calls (U : ByteArray) (X : Int) (Y : Int) (I : Option Addr) (J : Nat) (l0_3 : List (S113)) (M : Option Addr) (O : Nat) (s : List ByteArray) (r1 : ByteArray) (r2 : Int) (r3 : Int) (r4 : List (S113)) (r5 : List ByteArray) (w : World) (aD : Kd.C k113 w I l0_3.length l0_3) (aE : l0_3.length <= J) (aF : Kd.C Kd.string w M s.length s) (aG : s.length <= O) (h : ey.f U X Y l0_3 s = some (r1, r2, r3, r4, r5)) :
  Calls prog 99 #[.agg #[.string U, .int .i64 X, .int .i64 Y, .slice I l0_3.length J, .slice M s.length O]] w fun e w' => ∃ v3_ v4_ : Value, e = .returned (.agg #[.string r1, .int .i64 r2, .int .i64 r3, v3_, v4_]) /\ Kd.R k113 113 w' w.heap.size (fun _ => True) v3_ r4 /\ Kd.R Kd.string 9 w' w.heap.size (fun _ => True) v4_ r5 /\ Below w.heap.size w w' := by
 have a2 := underlying82
 replace aD := aM aD
 replace aE := aM aE
 replace aF := aM aF
 replace aG := aM aG
 have HB := aM (bi w.heap.size w)
 have H := h
 clear h
 unfold ey.f at H
 obtain ⟨aA, A2, H⟩ := cz H
 try dsimp only at H
 obtain ⟨aB, A3, H⟩ := cz H
 try dsimp only at H
 simp only [Option.some.injEq, Prod.mk.injEq] at H
 obtain ⟨rfl, rfl, rfl, rfl, rfl⟩ := H
 go_enter func99, ntmps99
 try go_wp2_with (first | ((with_reducible refine gD 1 ?_); refine bxF w 1 #[.string U, .int .i64 X, .int .i64 Y, .slice I l0_3.length J, .slice M s.length O] 82 (Z0) ?_; intro D hg w4 BK412 a3 GE412 HB hb; clear hb hg) | ((with_reducible refine gD 2 ?_); refine bxF w 2 #[.string (⟨#[]⟩ : ByteArray), .int .i64 0, .int .i64 0, .slice none 0 0, .slice none 0 0] 82 (Z152) ?_; intro aZ hg w5 y a5 GE413 HB hb; have aH := aM ((nL BK412 hg (Z114))); have aI := aM ((nG BK412 hg (Z114))); replace BK412 := aM (kB BK412 (Z114) hb); clear hb hg))
 replace BK412 := aM (ag BK412.out)
 replace y := aM (ag y.out)
 replace HB := aM (ac HB.out)
 refine fe (n := 10) (S := fun w' => qc5 D (.string U) (.int .i64 X) (.int .i64 Y) (.slice I l0_3.length J) (.slice M s.length O) w') (ds := [7, 9]) #[false, false, false, false, false, false, false, false, false, false] (Z16) rfl rfl (bc5 BK412.out) (fun hHeld => ?_); refine df ey.tab1 ey.bits1 (fun HT_ HW_ => ?_)
 generalize w5.drew = w6 at BK412 y HB hHeld ⊢
 refine pA 0 3 ?_
 refine pA 3 6 ?_
 refine tA 1 4 ?_
 refine tA 4 7 ?_
 refine oA 2 5 (fun K hK => ?_)
 refine fl func123 (Z16) rfl #[.slice I l0_3.length J] (Z96) rfl rfl (Z2) ?_
 with_reducible refine (impl_Stored_123.calls _ _ l0_3 aA _ ?Y1 ?Y2 A2.out).mono ?_
 (case Y1 => have h_ := Kd.C_below aD.out HB.out; exact tC)
 (case Y2 => exact aE.out)
 rintro e w7 ⟨a6, rfl, Z, hb⟩
 refine ⟨_, rfl, ?_⟩
 have aC := aM (Kd.R_lower Z (ct (Z79)))
 replace BK412 := aM (kB BK412 (Z114) hb)
 replace y := aM (kB y zB hb)
 replace HB := aM (ae (Z79) hb)
 (try clear hb); (try clear Z)
 refine hK.out _ _ (bc5 BK412.out) (fun hHeld => ?_)
 clear hK K
 refine nB 5 ?_
 refine pA 6 9 ?_
 refine oA 5 8 (fun K hK => ?_)
 refine fl func124 (Z16) rfl #[.slice M s.length O] (Z96) rfl rfl (Z2) ?_
 with_reducible refine (fj.calls _ _ s aB _ ?Y1 ?Y2 A3.out).mono ?_
 (case Y1 => have h_ := Kd.C_below aF.out HB.out; exact tC)
 (case Y2 => exact aG.out)
 rintro e w8 ⟨a7, rfl, Z, hb⟩
 refine ⟨_, rfl, ?_⟩
 replace aC := aM (Kd.R_below (by (with_reducible repeat (first | apply Kd.R_alloc | apply Kd.R_drewN | apply Kd.R_drew)); exact aC.out) hb)
 have aU := aM (Kd.R_lower Z (ct (Z79)))
 replace BK412 := aM (kB BK412 (Z114) hb)
 replace y := aM (kB y zB hb)
 replace HB := aM (ae (Z79) hb)
 (try clear hb); (try clear Z)
 obtain ⟨aJ, aK, aV⟩ := Kd.R_slice aC.out
 (first | subst aV | (injection aV with f1_ f2_ f3_; have f4_ := f1_.symm; have f5_ := f3_.symm; clear f1_ f2_ f3_; subst f4_; subst f5_))
 obtain ⟨aL, aN, aW⟩ := Kd.R_slice aU.out
 (first | subst aW | (injection aW with f1_ f2_ f3_; have f4_ := f1_.symm; have f5_ := f3_.symm; clear f1_ f2_ f3_; subst f4_; subst f5_))
 refine hK.out _ _ (bc5 BK412.out) (fun hHeld => ?_)
 clear hK K
 refine nB 8 ?_
 refine last_ (i := 7) (N := none) #[true, true, true, true, true, true, true, true, false, false] rfl rfl (one_of HT_.out (Z16)) (Z68) (fun K hK => ?_)
 obtain ⟨-, -, -, a8⟩ := cl4 BK412.out
 have a9 := am BK412.out 3
 have bA := aI.out
 have bB := aH.out
 refine skip_ (w1 := ?_) (Z96) rfl ?_ ?_
 rotate_left
 ·go_simp
  rfl
 refine hK.out _ _ ?_
 clear hK K
 refine pA 8 10 ?_
 refine last_ (i := 9) (N := none) #[true, true, true, true, true, true, true, true, true, true] rfl rfl (one_of HT_.out (Z16)) (Z68) (fun K hK => ?_)
 obtain ⟨-, -, -, -, bC⟩ := cl5 BK412.out
 have bD := am BK412.out 4
 have bE := aI.out
 have bF := aH.out
 refine skip_ (w1 := ?_) (Z96) rfl ?_ ?_
 rotate_left
 ·go_simp
  rfl
 refine hK.out _ _ ?_
 clear hK K
 refine gh (ei HT_.out (Z16)) ?_
 have bG := aH.out
 have bH := aI.out
 refine bD5 BK412 ?_
 intros
 refine bD5 y ?_
 intros
 try go_wp2
 refine bodyPost_ret (results_cell_row rfl _ _ aZ 82 #[.string U, .int .i64 X, .int .i64 Y, .slice aJ aA.length aK, .slice aL aB.length aN] (0, 0) _ rfl zB underlying82 rfl (Z16)) rfl ?_
 exact ⟨_, _, Z1, by (with_reducible repeat (first | apply Kd.R_alloc | apply Kd.R_drewN | apply Kd.R_drew)); exact Kd.R_mono (rF 4 (rF 3 (rF 2 (rF 1 (rF 0 (Kd.R_far (p := ⟨D, 4, none⟩) (Kd.R_far (p := ⟨D, 3, none⟩) (Kd.R_types (Kd.R_types aC.out BK412.out (Z68)) y.out (Z68)) (fun _ hk => hk.1.2) (.slice aJ aA.length aK)) (fun _ hk => hk.1.2) (.slice aL aB.length aN))))))) (fun _ hk => trivial), by (with_reducible repeat (first | apply Kd.R_alloc | apply Kd.R_drewN | apply Kd.R_drew)); exact Kd.R_mono (rF 4 (rF 3 (rF 2 (rF 1 (rF 0 (Kd.R_far (p := ⟨D, 4, none⟩) (Kd.R_far (p := ⟨D, 3, none⟩) (Kd.R_types (Kd.R_types aU.out BK412.out (Z68)) y.out (Z68)) (fun _ hk => hk.1.2) (.slice aJ aA.length aK)) (fun _ hk => hk.1.2) (.slice aL aB.length aN))))))) (fun _ hk => trivial), Z79⟩
def dj.l0 : Nat -> List (S82) -> List (S82) -> Int -> Int -> Option ((List (S82)))
 | 0, _, _, _, _ => none
 | k + 1, x3, x9, x10, x11 => if x11 < x10 then (if 0 <= x11 then (if x11 < (x9.length : Int) then ((ey.f ((ax x9 x11).f0) ((ax x9 x11).f1) ((ax x9 x11).f2) ((ax x9 x11).f3) ((ax x9 x11).f4)).bind fun s => (if x11 < (x3.length : Int) then (dj.l0 k (x3.set (x11 : Int).toNat (⟨s.1, s.2.1, s.2.2.1, s.2.2.2.1, s.2.2.2.2⟩ : S82)) x9 x10 (wrap64 (x11 + 1))) else (none))) else (none)) else (none)) else (some x3)
def dj.f (k : Nat) (l0 : List (S82)) : Option ((List (S82))) := if 0 <= (l0.length : Int) then (if ((l0.length : Int) : Int).toNat <= 3518437208883 then (dj.l0 k (List.replicate ((l0.length : Int) : Int).toNat z82) l0 (l0.length : Int) 0) else (none)) else (none)
theorem dj.calls (k : Nat) (A0 : Option Addr) (c0 : Nat) (l0 : List (S82)) (r : List (S82)) (w : World) (hr0 : Kd.C k82 w A0 l0.length l0) (a2 : l0.length <= c0) (h : dj.f k l0 = some r) :
  Calls prog 55 #[.slice A0 l0.length c0] w fun e w' => ∃ v0_ : Value, e = .returned (v0_) /\ Kd.S k82 82 w' w.heap.size (fun _ => True) v0_ r /\ Below w.heap.size w w' := by
 have cP := underlying82
 replace hr0 := aM hr0
 replace a2 := aM a2
 have HB := aM (bi w.heap.size w)
 have H := h
 clear h
 unfold dj.f at H
 obtain ⟨c2, H⟩ := ifS H
 have bN := bh c2
 have bO : decide (0 <= (l0.length : Int)) = true := az c2
 clear c2
 obtain ⟨c3, H⟩ := ifS H
 have bP := bh c3
 have bQ : decide (((l0.length : Int) : Int).toNat <= 3518437208883) = true := az c3
 clear c3
 obtain ⟨a3, aC⟩ : ∃ y_ : List (S82), y_ = (List.replicate ((l0.length : Int) : Int).toNat z82) := ⟨_, rfl⟩
 replace H : (dj.l0 k a3 l0 (l0.length : Int) 0) = some r := by first | (rw [aC]; with_reducible exact H) | (have H2_ := (Option.bind_some _ _).symm.trans H; rw [aC]; with_reducible exact H2_) | (have H2_ := (Option.bind_some _ _).symm.trans H; with_reducible exact H2_) | with_reducible exact H | (rw [aC]; exact H) | exact H
 have a5 := aM aC
 clear aC
 have H' := aM H
 clear H
 go_enter func55, ntmps55
 go_wp2_with (first | ((with_reducible refine gD 8 ?_); refine Kd.S_make k82 _ 82 rfl (N := 8) rfl 33 _ _ rfl (l0.length : Int) rfl rfl underlying33 (.agg #[(.string ⟨#[]⟩), (.int .i64 0), (.int .i64 0), (.slice none 0 0), (.slice none 0 0)]) 80 info82 rfl (Z68) (Z31) z82 (ok := fun _ => True) (okp := fun _ => True) (k82_mkM _ _ _ z82 (Kd.R_nil _ _ _ _ _) (Kd.R_nil _ _ _ _ _)) (fun _ hk => hk) trivial (dT (Z4)) (Nat.le_trans (Nat.mul_le_mul_right _ (dT (Z4) : (l0.length : Int).toNat <= 3518437208883)) (Z31)) (bi _ _) (bj _) ?_; intro bR w4 aD hb hg_ hnew_; clear hg_ hnew_; (first | rw [← a5.out] at aD | (simp only [Int.reduceToNat] at aD; rw [← a5.out] at aD)); have bS := aM (Kd.S_lower aD (ct (Z0))); replace HB := aM (ae (Z0) hb); clear hb aD))
 go_loopg [11] k (fun kq bT w' => ∃ (D : List (S82)) (s : Int), bT = .int .i64 s /\ ap (dj.l0 kq D l0 (l0.length : Int) s = some r) /\ ap (kq <= k) /\ ap (Kd.S k82 82 w' w.heap.size (fun _ => True) bR D) /\ ap (Below w.heap.size w w'))
 case atStart => exact ⟨(a3), (0), (Z3), H', ⟨bj _⟩, ⟨by (with_reducible repeat (first | apply Kd.S_alloc | apply Kd.S_drewN | apply Kd.S_drew)); exact bS.out⟩, ⟨Z0⟩⟩
 case round =>
  clear H'
  (try clear c2); (try clear bN); (try clear bO); (try clear c3); (try clear bP); (try clear bQ)
  obtain ⟨D, s, rfl, HA, HK1, HO_3, HB⟩ := hrel
  cases gk with
  | zero => exact absurd HA.out (by simp [dj.l0])
  | succ k1 =>
   have H := HA.out
   clear HA
   simp only [dj.l0] at H
   by_cases c6 : s < (l0.length : Int)
   ·rw [if_pos c6] at H
    have bU := az c6
    clear c6
    obtain ⟨c7, H⟩ := ifS H
    have cQ := az c7
    clear c7
    obtain ⟨c8, H⟩ := ifS H
    have cR := az c8
    clear c8
    obtain ⟨⟨O, U, X, aG, aH⟩, A9, H⟩ := cz H
    try dsimp only at H
    obtain ⟨c10, H⟩ := ifS H
    have cS := az c10
    clear c10
    obtain ⟨aN, aE⟩ : ∃ y_ : List (S82), y_ = (D.set (s : Int).toNat (⟨O, U, X, aG, aH⟩ : S82)) := ⟨_, rfl⟩
    replace H : (dj.l0 k1 aN l0 (l0.length : Int) (wrap64 (s + 1))) = some r := by first | (rw [aE]; with_reducible exact H) | (have H2_ := (Option.bind_some _ _).symm.trans H; rw [aE]; with_reducible exact H2_) | (have H2_ := (Option.bind_some _ _).symm.trans H; with_reducible exact H2_) | with_reducible exact H | (rw [aE]; exact H) | exact H
    have bW := aM aE
    clear aE
    have H' := aM H
    clear H
    have aO : 0 <= (s : Int) := dT (Z4)
    have aP : s < (l0.length : Int) := dT (Z4)
    obtain ⟨cT, aQ, aR, aS, aT, bX, a7, a8, a9, bA, bB, bC, bD, bE, bF⟩ := em hr0.out s aO aP
    cases bX
    replace a7 := cB HB.out a7
    replace a8 := cB HB.out a8
    replace a9 := cB HB.out a9
    replace bA := cB HB.out bA
    replace bB := cB HB.out bB
    have bY := aM bD
    have bZ := aM bC
    clear bD bC
    have b0 := aM bF
    have b1 := aM bE
    clear bF bE
    replace aO := bh aO
    replace aP := bh aP
    go_wp2_with (first | ((with_reducible refine gD 5 ?_); refine bxE 5 #[.string (⟨#[]⟩ : ByteArray), .int .i64 0, .int .i64 0, .slice none 0 0, .slice none 0 0] 82 ?_; intro J hg cU hbox hb; replace HO_3 := aM (Kd.S_below (Kd.S_elderB (Z94) J (Nat.le_of_eq hg.symm)) hb); have M := aM (hbox); have cV := aM ((szE w hg (Z0))); have GE424 := aM ((szE w hg (Z0))); replace HB := aM (ae (Z0) hb); clear hb hbox hg; refine bD5 M ?_; intros) | ((with_reducible refine gC 99 ?_); refine gL 19 func99 #[.agg #[.string ((ax l0 s).f0), .int .i64 ((ax l0 s).f1), .int .i64 ((ax l0 s).f2), .slice aQ ((ax l0 s).f3).length aR, .slice aS ((ax l0 s).f4).length aT]] ?_; (with_reducible refine (ey.calls ((ax l0 s).f0) ((ax l0 s).f1) ((ax l0 s).f2) _ _ ((ax l0 s).f3) _ _ ((ax l0 s).f4) O U X aG aH _ ?Y1 ?Y2 ?Y3 ?Y4 A9.out).mono ?_); (case Y1 => exact Kd.C_below bY.out (Z78)); (case Y2 => exact bZ.out); (case Y3 => exact Kd.C_below b0.out (Z78)); (case Y4 => exact b1.out); rintro e I ⟨aI, aJ, rfl, aU, aV, hb⟩; refine ⟨_, rfl, ?_⟩; replace HO_3 := aM (Kd.S_mono (Kd.S_told (Kd.S_told (Kd.S_old (by (with_reducible repeat (first | apply Kd.S_alloc | apply Kd.S_drewN | apply Kd.S_drew)); exact (Kd.S_mono (sF 4 (sF 3 (sF 2 (sF 1 (sF 0 (Kd.S_mono HO_3.out (fun k_ hk => (⟨hk, hk.2⟩ : _ /\ k_ ≠ J)))))))) (fun _ h_ => h_.1))) hb) (Kd.R_base aU)) (Kd.R_base aV)) (fun _ h_ => h_.1)); have aK := aM (Kd.R_lower aU (ct (Z78))); have aL := aM (Kd.R_lower aV (ct (Z78))); replace M := aM (ai (g := J) (o := .cells #[.string ((ax l0 s).f0), .int .i64 ((ax l0 s).f1), .int .i64 ((ax l0 s).f2), .slice aQ ((ax l0 s).f3).length aR, .slice aS ((ax l0 s).f4).length aT] 82 (0, 0)) zB hb); replace HB := aM (ae (Z78) hb); (try clear hb); (try clear hk); (try clear aU); (try clear aV); have p11 : 0 <= (s : Int) := dT (Z4); have aW : (s : Int) < ((D.length : Int) : Int) := dT (Z4); obtain ⟨y, bG, bH, bI, b2, cX, bJ⟩ := Kd.S_form HO_3.out (Z31); (first | cases bH | (injection bH with ea_ en_ ec_; (first | subst ea_ | (injection ea_ with ea_; subst ea_)); subst ec_; clear en_)); have aF := aM bI; have cY := aM bJ; clear bI b2 bJ; obtain ⟨_, cZ, b6, bK, Y, Z, _, _⟩ := Kd.S_elem HO_3.out z82 (s : Int) p11 aW; obtain ⟨b7, b8, rfl, dA, dB⟩ := k82_openM bK; have dC : I.cell? ⟨y, (s : Int).toNat * 5, none⟩ = some (.string ((ax D s).f0)) := Y 0 _ rfl; have dD : I.cell? ⟨y, (s : Int).toNat * 5 + 1, none⟩ = some (.int .i64 ((ax D s).f1)) := Y 1 _ rfl; have dE : I.cell? ⟨y, (s : Int).toNat * 5 + 2, none⟩ = some (.int .i64 ((ax D s).f2)) := Y 2 _ rfl; have dF : I.cell? ⟨y, (s : Int).toNat * 5 + 3, none⟩ = some (b7) := Y 3 _ rfl; have dG : I.cell? ⟨y, (s : Int).toNat * 5 + 4, none⟩ = some (b8) := Y 4 _ rfl; have dH : I.frozen? ⟨y, (s : Int).toNat * 5, none⟩ = false := Z 0; have dI : I.frozen? ⟨y, (s : Int).toNat * 5 + 1, none⟩ = false := Z 1; have dJ : I.frozen? ⟨y, (s : Int).toNat * 5 + 2, none⟩ = false := Z 2; have dK : I.frozen? ⟨y, (s : Int).toNat * 5 + 3, none⟩ = false := Z 3; have dL : I.frozen? ⟨y, (s : Int).toNat * 5 + 4, none⟩ = false := Z 4; clear b6 Y Z bK; replace p11 := bh p11; replace aW := bh aW; have n_ := aM (Kd.S_mono (ok' := (fun k_ => some k_ ≠ (aI : Value).ownBlock /\ some k_ ≠ (aJ : Value).ownBlock /\ k_ ≠ J)) HO_3.out (fun k_ hk => ⟨hk.1.2, ⟨hk.2, hk.1.1.2⟩⟩)); clear HO_3; have HO_3 := n_; clear n_; have b9 := aM (show Kd.S k82 82 I w.heap.size (fun k_ => ((fun k_ => k_ ≠ J)) k_ /\ ¬ ((fun k_ => some k_ = (aI : Value).ownBlock ∨ some k_ = (aJ : Value).ownBlock)) k_) (.slice (some ⟨y, 0, none⟩) D.length bG) D from (by (with_reducible repeat (first | apply Kd.S_alloc | apply Kd.S_drewN | apply Kd.S_drew)); exact Kd.S_mono HO_3.out (fun k_ hk => ⟨hk.2.2, fun e_ => e_.elim (fun h_ => hk.1 h_) (fun h_ => hk.2.1 h_)⟩))); obtain ⟨dM, dN, cA, bL, aA, aB, cC, bM⟩ := Kd.S_elem b9.out z82 (s : Int) (dT (Z4)) (by have h_ : (s : Int) < ((D.length : Int) : Int) := dT (Z4); first | exact h_ | (have e_ := (Kd.S_reads' HO_3.out).1; omega) | simpa using h_); obtain ⟨dO, dP, rfl, dQ, dR⟩ := k82_openM bL; have aX := Kd.S_seg bM (dT (Z4)) (by have h_ : (s : Int) < ((D.length : Int) : Int) := dT (Z4); first | exact h_ | (have e_ := (Kd.S_reads' HO_3.out).1; omega) | simpa using h_) (seg := [.string O, .int .i64 U, .int .i64 X, aI, aJ]) (j := 0) (show 5 <= 5 from by decide) (x' := (⟨O, U, X, aG, aH⟩ : S82)) (k82_mkM _ _ _ (⟨O, U, X, aG, aH⟩ : S82) (Kd.R_mono (Kd.R_tight rfl (Kd.R_mono (ok' := fun k_ => ((fun k_ => k_ ≠ J)) k_ /\ k_ ≠ y) (Kd.R_types (Kd.R_apart' (aK.out) (Kd.S_typed HO_3.out) (Z68)) M.out (Z68)) (fun k_ hk => ⟨hk.2, fun e_ => (hk.1.2) (by rw [e_]; rfl)⟩))) (fun _ h_ => Or.inr (Or.inl h_))) (Kd.R_mono (Kd.R_tight rfl (Kd.R_mono (ok' := fun k_ => ((fun k_ => k_ ≠ J)) k_ /\ k_ ≠ y) (Kd.R_types (Kd.R_apart' (aL.out) (Kd.S_typed HO_3.out) (Z68)) M.out (Z68)) (fun k_ hk => ⟨hk.2, fun e_ => (hk.1.2) (by rw [e_]; rfl)⟩))) (fun _ h_ => Or.inr (Or.inr (h_))))) (fun _ hk => hk) (fun k_ hk_ => hk_.elim (fun h_ => ((Kd.R_mono (ok' := fun k_ => ((fun k_ => k_ ≠ J)) k_ /\ k_ ≠ y) (Kd.R_types (Kd.R_apart' (aK.out) (Kd.S_typed HO_3.out) (Z68)) M.out (Z68)) (fun k_ hk => ⟨hk.2, fun e_ => (hk.1.2) (by rw [e_]; rfl)⟩))).1 k_ h_.symm) (fun h_ => ((Kd.R_mono (ok' := fun k_ => ((fun k_ => k_ ≠ J)) k_ /\ k_ ≠ y) (Kd.R_types (Kd.R_apart' (aL.out) (Kd.S_typed HO_3.out) (Z68)) M.out (Z68)) (fun k_ hk => ⟨hk.2, fun e_ => (hk.1.2) (by rw [e_]; rfl)⟩))).1 k_ h_.symm)); have cD := aA 0 _ rfl; (try simp only [show (k82).sz = 5 from rfl, Nat.mul_one, Nat.add_zero] at cD); have cG := aB 0; (try simp only [show (k82).sz = 5 from rfl, Nat.mul_one, Nat.add_zero] at cG); have cH := aA 1 _ rfl; (try simp only [show (k82).sz = 5 from rfl, Nat.mul_one, Nat.add_zero] at cH); have cI := aB 1; (try simp only [show (k82).sz = 5 from rfl, Nat.mul_one, Nat.add_zero] at cI); have cJ := aA 2 _ rfl; (try simp only [show (k82).sz = 5 from rfl, Nat.mul_one, Nat.add_zero] at cJ); have cK := aB 2; (try simp only [show (k82).sz = 5 from rfl, Nat.mul_one, Nat.add_zero] at cK); have cL := aA 3 _ rfl; (try simp only [show (k82).sz = 5 from rfl, Nat.mul_one, Nat.add_zero] at cL); have cM := aB 3; (try simp only [show (k82).sz = 5 from rfl, Nat.mul_one, Nat.add_zero] at cM); have cN := aA 4 _ rfl; (try simp only [show (k82).sz = 5 from rfl, Nat.mul_one, Nat.add_zero] at cN); have cO := aB 4; (try simp only [show (k82).sz = 5 from rfl, Nat.mul_one, Nat.add_zero] at cO); clear cA aA aB bL cC bM) | ((with_reducible refine gate_store (t := 82) (p := 20) rfl ?_); refine store_event (t := 82) (p := 20) (v := ?vo_w16) (w1 := (((((I.setCell ⟨y, (s : Int).toNat * 5, none⟩ (.string O)).setCell ⟨y, (s : Int).toNat * 5 + 1, none⟩ (.int .i64 U)).setCell ⟨y, (s : Int).toNat * 5 + 2, none⟩ (.int .i64 X)).setCell ⟨y, (s : Int).toNat * 5 + 3, none⟩ (aI)).setCell ⟨y, (s : Int).toNat * 5 + 4, none⟩ (aJ))) ?hg ?ho ?hn ?hr ?_; (case ho => rfl); (case hg => rfl); (case hn => rfl); (case hr => (obtain ⟨_, _, hv_⟩ := Kd.R_slice aK.out; subst hv_; obtain ⟨_, _, hv_⟩ := Kd.R_slice aL.out; subst hv_; first | (go_simp; done) | (go_simp; rfl))); intro aY hw; have hg : I.grownBy aY (some y) := (by rw [hw]; exact aX.2); have hp_ : Kd.S k82 82 aY w.heap.size (fun k_ => k_ ≠ J) (.slice (some ⟨y, 0, none⟩) D.length bG) aN := (by rw [hw, bW.out]; exact aX.1); clear aX; have n0_ := aM (hp_); have n1_ := aM (fm (g := J) (o := .cells #[.string ((ax l0 s).f0), .int .i64 ((ax l0 s).f1), .int .i64 ((ax l0 s).f2), .slice aQ ((ax l0 s).f3).length aR, .slice aS ((ax l0 s).f4).length aT] 82 (0, 0)) zB hg (Kd.S_away HO_3.out (fun _ hk => hk.2.2))); have n2_ := aM ((by rw [hw]; exact aa (aa (aa (aa (aa (HB.out) aF.out) aF.out) aF.out) aF.out) aF.out : Below w.heap.size w aY)); clear HO_3; clear M; clear HB; clear aK; clear aL; have HO_3 := n0_; have M := n1_; have HB := n2_; clear n0_ n1_ n2_; clear hg hw hp_))
    go_roundg k1
    case measure => have := HK1.out; omega
    case rel => exact ⟨(aN), (wrap64 (s + 1)), (Z3), H', ⟨Z85⟩, ⟨by (with_reducible repeat (first | apply Kd.S_alloc | apply Kd.S_drewN | apply Kd.S_drew)); exact Kd.S_mono HO_3.out (fun _ hk => trivial)⟩, ⟨Z78⟩⟩
   rw [if_neg c6] at H
   have bU := ba c6
   clear c6
   obtain rfl := oI H
   go_wp2
   go_ret
   exact ⟨_, Z1, Z94, Z0⟩
def impl_cloneEngine.f (k : Nat) (s : Int) (y : ByteArray) (D : Int) (l0_3 : List (S82)) : Option (Int × ByteArray × Int × (List (S82))) := (dj.f k l0_3).bind fun I => (some (s, y, D, I))
theorem impl_cloneEngine.calls (k : Nat) (s : Int) (y : ByteArray) (D : Int) (I : Option Addr) (J : Nat) (l0_3 : List (S82)) (Y : Int) (Z : ByteArray) (r3 : Int) (r4 : List (S82)) (w : World) (O : Kd.C k82 w I l0_3.length l0_3) (U : l0_3.length <= J) (h : impl_cloneEngine.f k s y D l0_3 = some (Y, Z, r3, r4)) :
  Calls prog 26 #[.agg #[.int .i64 s, .string y, .int .i64 D, .slice I l0_3.length J]] w fun e w' => ∃ v3_ : Value, e = .returned (.agg #[.int .i64 Y, .string Z, .int .i64 r3, v3_]) /\ Kd.S k82 82 w' w.heap.size (fun _ => True) v3_ r4 /\ Below w.heap.size w w' := by
 have aN := underlying35
 replace O := aM O
 replace U := aM U
 have HB := aM (bi w.heap.size w)
 have H := h
 clear h
 unfold impl_cloneEngine.f at H
 obtain ⟨X, A2, H⟩ := cz H
 try dsimp only at H
 simp only [Option.some.injEq, Prod.mk.injEq] at H
 obtain ⟨rfl, rfl, rfl, rfl⟩ := H
 go_enter func26, ntmps26
 go_wp2_with (first | ((with_reducible refine gD 1 ?_); refine bxF w 1 #[.int .i64 s, .string y, .int .i64 D, .slice I l0_3.length J] 35 (Z0) ?_; intro aH hg w3 BK435 aO GE435 HB hb; clear hb hg) | ((with_reducible refine gD 2 ?_); refine bxF w 2 #[.int .i64 0, .string (⟨#[]⟩ : ByteArray), .int .i64 0, .slice none 0 0] 35 (Z153) ?_; intro aI hg w4 M aP GE436 HB hb; have aJ := aM ((nL BK435 hg (Z160))); have aK := aM ((nG BK435 hg (Z160))); replace BK435 := aM (kB BK435 (Z160) hb); clear hb hg; have aQ := aJ.out; have aR := aK.out; refine bD4 BK435 ?_; intros) | ((with_reducible refine gC 55 ?_); refine gL 5 func55 #[.slice I l0_3.length J] ?_; (with_reducible refine (dj.calls k _ _ l0_3 X _ ?Y1 ?Y2 A2.out).mono ?_); (case Y1 => have h_ := Kd.C_below O.out HB.out; exact tC); (case Y2 => exact U.out); rintro e w7 ⟨aS, rfl, aC, hb⟩; refine ⟨_, rfl, ?_⟩; have aD := aM (Kd.S_lower aC (ct (Z123))); replace BK435 := aM (kB BK435 (Z160) hb); replace M := aM (kB M zB hb); replace HB := aM (ae (Z123) hb); (try clear hb); (try clear aC); obtain ⟨aE, aF, aL⟩ := Kd.S_slice aD.out; subst aL; refine bD4 BK435 ?_; intros; refine bD4 M ?_; intros))
 refine bodyPost_ret (results_cell_row rfl _ _ aI 35 #[.int .i64 s, .string y, .int .i64 D, .slice aE X.length aF] (0, 0) _ rfl zB underlying35 rfl (Z16)) rfl ?_
 exact ⟨_, Z1, by (with_reducible repeat (first | apply Kd.S_alloc | apply Kd.S_drewN | apply Kd.S_drew)); exact Kd.S_mono (sF 3 (sF 2 (sF 1 (sF 0 (Kd.S_far (p := ⟨aH, 3, none⟩) (Kd.S_types (Kd.S_types aD.out BK435.out (Z68)) M.out (Z68)) (fun _ hk => hk.1.2) (.slice aE X.length aF)))))) (fun _ hk => trivial), Z123⟩
def impl_recordBytes.f (a0 : ByteArray) : Option ByteArray := if a0.size <= 65000 then some (bs (frameL a0.data.toList)) else none
theorem impl_recordBytes.calls (a0 r : ByteArray) (w : World) (h : impl_recordBytes.f a0 = some r) :
  Calls prog 89 #[.string a0] w fun e w' => e = .returned (.string r) /\ Below w.heap.size w w' := by
 unfold impl_recordBytes.f at h
 split at h
 ·injection h with h
  subst h
  have := i_recordBytes a0.data.toList w (by rw [← ee, bs_of]; omega)
  rwa [bs_of] at this
 cases h
def impl_Log_with.f (D : Int) (s : ByteArray) (I : Int) (a1 : ByteArray) : Option (Int × ByteArray × Int) := (impl_recordBytes.f a1).bind fun y => (if s.size + y.size <= 9223372036854775807 then (some (D, s ++ y, I)) else (none))
theorem impl_Log_with.calls (D : Int) (s : ByteArray) (I : Int) (a1 : ByteArray) (M : Int) (O : ByteArray) (U : Int) (w : World) (h : impl_Log_with.f D s I a1 = some (M, O, U)) :
  Calls prog 58 #[.agg #[.int .i64 D, .string s, .int .i64 I], .string a1] w fun e w' => e = .returned (.agg #[.int .i64 M, .string O, .int .i64 U]) /\ Below w.heap.size w w' := by
 have aD := underlying32
 have HB := aM (bi w.heap.size w)
 have H := h
 clear h
 unfold impl_Log_with.f at H
 obtain ⟨J, A3, H⟩ := cz H
 try dsimp only at H
 obtain ⟨c4, H⟩ := ifS H
 have aE := bh c4
 have aF : decide (s.size + J.size <= 9223372036854775807) = true := az c4
 try have aG : (9223372036854775807 < s.size + J.size) = False := eq_false (Nat.not_lt.2 c4)
 simp only [Option.some.injEq, Prod.mk.injEq] at H
 obtain ⟨rfl, rfl, rfl⟩ := H
 go_enter func58, ntmps58
 try go_wp2_with (first | ((with_reducible refine gD 2 ?_); refine bxF w 2 #[.int .i64 D, .string s, .int .i64 I] 32 (Z0) ?_; intro X hg w5 BK440 aH GE440 HB hb; clear hb hg) | ((with_reducible refine gD 4 ?_); refine bxF w 4 #[.int .i64 0, .string (⟨#[]⟩ : ByteArray), .int .i64 0] 32 (Z154) ?_; intro aB hg w6 y aI GE441 HB hb; have Y := aM ((nL BK440 hg (Z161))); have Z := aM ((nG BK440 hg (Z161))); replace BK440 := aM (kB BK440 (Z161) hb); clear hb hg))
 replace BK440 := aM (ag BK440.out)
 replace y := aM (ag y.out)
 replace HB := aM (ac HB.out)
 refine fe (n := 7) (S := fun w' => qc3 X (.int .i64 D) (.string s) (.int .i64 I) w') (ds := [6]) #[false, false, false, false, false, false, false] (Z16) rfl rfl (bc3 BK440.out) (fun hHeld => ?_)
 generalize w6.drew = w7 at BK440 y HB hHeld ⊢
 refine pA 0 5 ?_
 refine pA 2 7 ?_
 refine tA 1 6 ?_
 refine oA 3 8 (fun K hK => ?_)
 refine fl func89 (Z16) rfl #[.string a1] (Z96) rfl rfl (Z2) ?_
 with_reducible refine (impl_recordBytes.calls a1 J _ A3.out).mono ?_
 rintro e w8 ⟨rfl, hb⟩
 refine ⟨_, rfl, ?_⟩
 replace BK440 := aM (kB BK440 (Z161) hb)
 replace y := aM (kB y zB hb)
 replace HB := aM (ae (Z169) hb)
 (try clear hb)
 refine hK.out _ _ (bc3 BK440.out) (fun hHeld => ?_)
 clear hK K
 refine nB 8 ?_
 refine pA 4 9 ?_
 refine pA 5 10 ?_
 refine last_ (i := 6) (N := none) #[true, true, true, true, true, true, true] rfl rfl (Z16) (Z68) (fun K hK => ?_)
 obtain ⟨-, aJ⟩ := cl2 BK440.out
 have aK := am BK440.out 1
 have aL := Z.out
 have aN := Y.out
 refine skip_ (w1 := ?_) (Z96) rfl ?_ ?_
 rotate_left
 ·go_simp
  rfl
 refine hK.out _ _ ?_
 clear hK K
 refine gh (Z16) ?_
 have aO := Y.out
 have aP := Z.out
 refine bD3 BK440 ?_
 intros
 refine bD3 y ?_
 intros
 try go_wp2
 refine bodyPost_ret (results_cell_row rfl _ _ aB 32 #[.int .i64 D, .string (s ++ J), .int .i64 I] (0, 0) _ rfl zB underlying32 rfl (Z16)) rfl ?_
 exact ⟨Z1, Z169⟩
end Go.Proofs.YtifkmkiljpeaaadGreat.PFnExactCommit
