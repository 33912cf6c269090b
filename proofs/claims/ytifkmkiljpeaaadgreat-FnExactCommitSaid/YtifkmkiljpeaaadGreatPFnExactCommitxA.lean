import Derived.Test.YtifkmkiljpeaaadGreatPFnExactCommitxt
set_option maxHeartbeats 40000000
set_option maxRecDepth 100000
namespace Go.Proofs.YtifkmkiljpeaaadGreat.PFnExactCommit
open Go.RowKit Go.Proofs.YtifkmkiljpeaaadGreatW.PrintWords Go.Proofs.YtifkmkiljpeaaadGreatW.PrintLast Go.Proofs.YtifkmkiljpeaaadGreatW.PrintMore Go.Proofs.YtifkmkiljpeaaadGreat.Mac Go.Proofs.Tryz
set_option linter.unusedVariables false
set_option linter.unusedSimpArgs false
def errW : Option Int -> Value
 | none => .nilIface
 | some c => .iface 0 (.int .i64 c)
theorem errW_none : errW none = .nilIface := rfl
theorem errW_some (c : Int) : errW (some c) = .iface 0 (.int .i64 c) := rfl
theorem info5 : (prog.info? 5).map (fun i => (i.zero, i.size, i.bytes)) = some (some (.int .u8 0), 1, 1) := by kernel_rfl
theorem info9 : (prog.info? 9).map (fun i => (i.zero, i.size, i.bytes)) = some (some (.string ⟨#[]⟩), 1, 16) := by kernel_rfl
theorem info82 : (prog.info? 82).map (fun i => (i.zero, i.size, i.bytes)) = some (some (.agg #[(.string ⟨#[]⟩), (.int .i64 0), (.int .i64 0), (.slice none 0 0), (.slice none 0 0)]), 5, 80) := by kernel_rfl
theorem info84 : (prog.info? 84).map (fun i => (i.zero, i.size, i.bytes)) = some (some (.agg #[(.string ⟨#[]⟩), (.string ⟨#[]⟩)]), 2, 32) := by kernel_rfl
theorem info113 : (prog.info? 113).map (fun i => (i.zero, i.size, i.bytes)) = some (some (.agg #[(.int .i64 0), (.int .i64 0), (.string ⟨#[]⟩)]), 3, 32) := by kernel_rfl
structure S136 where
 f0 : Int
 f1 : Int
 f2 : ByteArray
def z136 : S136 := ⟨(0 : Int), (0 : Int), (⟨#[]⟩ : ByteArray)⟩
def k136 : Kd S136 := Kd.iso (Kd.pair (Kd.int .i64) (Kd.pair (Kd.int .i64) Kd.string)) (fun x : S136 => (x.f0, x.f1, x.f2))
theorem k136_open {w : World} {x : S136} {cs : List Value} (h : k136.K w x cs) : cs = [.int .i64 x.f0, .int .i64 x.f1, .string x.f2] := by
 obtain ⟨_, _, rfl, rfl, ⟨_, _, rfl, rfl, rfl⟩⟩ := h
 exact rfl
def au (xs : List S136) (i : Int) : S136 := xs.getD i.toNat z136
theorem at_T136 {w : World} {A : Option Addr} {n : Nat} {xs : List S136} (h : Kd.C k136 w A n xs) (i : Int) (s : 0 <= i) (h1 : i < n) : ∃ ad , A = some ad /\ w.cell? (ad.add (i.toNat * 3)) = some (.int .i64 (au xs i).f0) /\ w.cell? ⟨(ad.add (i.toNat * 3)).block, (ad.add (i.toNat * 3)).off + 1, none⟩ = some (.int .i64 (au xs i).f1) /\ w.cell? ⟨(ad.add (i.toNat * 3)).block, (ad.add (i.toNat * 3)).off + 2, none⟩ = some (.string (au xs i).f2) := by
 obtain ⟨ad, c, e, _, hK, y⟩ := Kd.C_get h z136 i s h1
 have hc : ∀ j u, c[j]? = some u -> w.cell? (ad.add (i.toNat * 3 + j)) = some u := y
 obtain rfl := k136_open hK
 exact ⟨ad, e, hc 0 _ rfl, Z109, Z133⟩
structure S68 where
 f0 : ByteArray
 f1 : Int
 f2 : Int
 f3 : (List S136)
 f4 : (List ByteArray)
def z68 : S68 := ⟨(⟨#[]⟩ : ByteArray), (0 : Int), (0 : Int), ([] : List S136), ([] : List ByteArray)⟩
def k68 : Kd S68 := Kd.iso (Kd.pair Kd.string (Kd.pair (Kd.int .i64) (Kd.pair (Kd.int .i64) (Kd.pair (Kd.slice 136 k136) (Kd.slice 9 Kd.string))))) (fun x : S68 => (x.f0, x.f1, x.f2, x.f3, x.f4))
theorem k68_open {w : World} {x : S68} {cs : List Value} (h : k68.K w x cs) : ∃ s c3 y c4, cs = [.string x.f0, .int .i64 x.f1, .int .i64 x.f2, .slice s x.f3.length c3, .slice y x.f4.length c4] /\ x.f3.length <= c3 /\ k136.C w s x.f3.length x.f3 /\ x.f4.length <= c4 /\ Kd.string.C w y x.f4.length x.f4 := by
 obtain ⟨_, _, rfl, rfl, ⟨_, _, rfl, rfl, ⟨_, _, rfl, rfl, ⟨_, _, rfl, ⟨s, c3, rfl, D, I⟩, ⟨y, c4, rfl, J, M⟩⟩⟩⟩⟩ := h
 exact ⟨s, c3, y, c4, rfl, D, I, J, M⟩
def av (xs : List S68) (i : Int) : S68 := xs.getD i.toNat z68
theorem at_T68 {w : World} {A : Option Addr} {n : Nat} {xs : List S68} (h : Kd.C k68 w A n xs) (i : Int) (D : 0 <= i) (h1 : i < n) : ∃ ad s c3 y c4, A = some ad /\ w.cell? (ad.add (i.toNat * 5)) = some (.string (av xs i).f0) /\ w.cell? ⟨(ad.add (i.toNat * 5)).block, (ad.add (i.toNat * 5)).off + 1, none⟩ = some (.int .i64 (av xs i).f1) /\ w.cell? ⟨(ad.add (i.toNat * 5)).block, (ad.add (i.toNat * 5)).off + 2, none⟩ = some (.int .i64 (av xs i).f2) /\ w.cell? ⟨(ad.add (i.toNat * 5)).block, (ad.add (i.toNat * 5)).off + 3, none⟩ = some (.slice s (av xs i).f3.length c3) /\ w.cell? ⟨(ad.add (i.toNat * 5)).block, (ad.add (i.toNat * 5)).off + 4, none⟩ = some (.slice y (av xs i).f4.length c4) /\ (av xs i).f3.length <= c3 /\ k136.C w s (av xs i).f3.length (av xs i).f3 /\ (av xs i).f4.length <= c4 /\ Kd.string.C w y (av xs i).f4.length (av xs i).f4 := by
 obtain ⟨ad, c, e, _, hK, I⟩ := Kd.C_get h z68 i D h1
 have hc : ∀ j u, c[j]? = some u -> w.cell? (ad.add (i.toNat * 5 + j)) = some u := I
 obtain ⟨s, c3, y, c4, rfl, J, M, O, U⟩ := k68_open hK
 exact ⟨ad, s, c3, y, c4, e, hc 0 _ rfl, Z109, Z133, Z189, Z201, J, M, O, U⟩
structure S71 where
 f0 : ByteArray
 f1 : ByteArray
def z71 : S71 := ⟨(⟨#[]⟩ : ByteArray), (⟨#[]⟩ : ByteArray)⟩
def k71 : Kd S71 := Kd.iso (Kd.pair Kd.string Kd.string) (fun x : S71 => (x.f0, x.f1))
theorem k71_open {w : World} {x : S71} {cs : List Value} (h : k71.K w x cs) : cs = [.string x.f0, .string x.f1] := by
 obtain ⟨_, _, rfl, rfl, rfl⟩ := h
 exact rfl
def aw (xs : List S71) (i : Int) : S71 := xs.getD i.toNat z71
theorem at_T71 {w : World} {A : Option Addr} {n : Nat} {xs : List S71} (h : Kd.C k71 w A n xs) (i : Int) (s : 0 <= i) (h1 : i < n) : ∃ ad , A = some ad /\ w.cell? (ad.add (i.toNat * 2)) = some (.string (aw xs i).f0) /\ w.cell? ⟨(ad.add (i.toNat * 2)).block, (ad.add (i.toNat * 2)).off + 1, none⟩ = some (.string (aw xs i).f1) := by
 obtain ⟨ad, c, e, _, hK, y⟩ := Kd.C_get h z71 i s h1
 have hc : ∀ j u, c[j]? = some u -> w.cell? (ad.add (i.toNat * 2 + j)) = some u := y
 obtain rfl := k71_open hK
 exact ⟨ad, e, hc 0 _ rfl, Z109⟩
structure S113 where
 f0 : Int
 f1 : Int
 f2 : ByteArray
def z113 : S113 := ⟨(0 : Int), (0 : Int), (⟨#[]⟩ : ByteArray)⟩
def k113 : Kd S113 := Kd.iso (Kd.pair (Kd.int .i64) (Kd.pair (Kd.int .i64) Kd.string)) (fun x : S113 => (x.f0, x.f1, x.f2))
theorem k113_open {w : World} {x : S113} {cs : List Value} (h : k113.K w x cs) : cs = [.int .i64 x.f0, .int .i64 x.f1, .string x.f2] := by
 obtain ⟨_, _, rfl, rfl, ⟨_, _, rfl, rfl, rfl⟩⟩ := h
 exact rfl
theorem k113_openM {w : World} {base : Nat} {ok : Nat -> Prop} {x : S113} {cs : List Value} (h : k113.M w base ok x cs) : cs = [.int .i64 x.f0, .int .i64 x.f1, .string x.f2] := by
 obtain ⟨_, _, rfl, rfl, ⟨_, _, rfl, rfl, rfl⟩⟩ := h
 exact rfl
theorem k113_mkM (w : World) (base : Nat) (ok : Nat -> Prop) (x : S113)  : k113.M w base ok x [.int .i64 x.f0, .int .i64 x.f1, .string x.f2] := ⟨[.int .i64 x.f0], [.int .i64 x.f1, .string x.f2], rfl, rfl, ⟨[.int .i64 x.f1], [.string x.f2], rfl, rfl, rfl⟩⟩
def ar (xs : List S113) (i : Int) : S113 := xs.getD i.toNat z113
theorem ed {w : World} {A : Option Addr} {n : Nat} {xs : List S113} (h : Kd.C k113 w A n xs) (i : Int) (s : 0 <= i) (h1 : i < n) : ∃ ad , A = some ad /\ w.cell? (ad.add (i.toNat * 3)) = some (.int .i64 (ar xs i).f0) /\ w.cell? ⟨(ad.add (i.toNat * 3)).block, (ad.add (i.toNat * 3)).off + 1, none⟩ = some (.int .i64 (ar xs i).f1) /\ w.cell? ⟨(ad.add (i.toNat * 3)).block, (ad.add (i.toNat * 3)).off + 2, none⟩ = some (.string (ar xs i).f2) := by
 obtain ⟨ad, c, e, _, hK, y⟩ := Kd.C_get h z113 i s h1
 have hc : ∀ j u, c[j]? = some u -> w.cell? (ad.add (i.toNat * 3 + j)) = some u := y
 obtain rfl := k113_open hK
 exact ⟨ad, e, hc 0 _ rfl, Z109, Z133⟩
structure S82 where
 f0 : ByteArray
 f1 : Int
 f2 : Int
 f3 : (List S113)
 f4 : (List ByteArray)
def z82 : S82 := ⟨(⟨#[]⟩ : ByteArray), (0 : Int), (0 : Int), ([] : List S113), ([] : List ByteArray)⟩
def k82 : Kd S82 := Kd.iso (Kd.pair Kd.string (Kd.pair (Kd.int .i64) (Kd.pair (Kd.int .i64) (Kd.pair (Kd.slice 113 k113) (Kd.slice 9 Kd.string))))) (fun x : S82 => (x.f0, x.f1, x.f2, x.f3, x.f4))
theorem k82_open {w : World} {x : S82} {cs : List Value} (h : k82.K w x cs) : ∃ s c3 y c4, cs = [.string x.f0, .int .i64 x.f1, .int .i64 x.f2, .slice s x.f3.length c3, .slice y x.f4.length c4] /\ x.f3.length <= c3 /\ k113.C w s x.f3.length x.f3 /\ x.f4.length <= c4 /\ Kd.string.C w y x.f4.length x.f4 := by
 obtain ⟨_, _, rfl, rfl, ⟨_, _, rfl, rfl, ⟨_, _, rfl, rfl, ⟨_, _, rfl, ⟨s, c3, rfl, D, I⟩, ⟨y, c4, rfl, J, M⟩⟩⟩⟩⟩ := h
 exact ⟨s, c3, y, c4, rfl, D, I, J, M⟩
theorem k82_openM {w : World} {base : Nat} {ok : Nat -> Prop} {x : S82} {cs : List Value} (h : k82.M w base ok x cs) : ∃ s y, cs = [.string x.f0, .int .i64 x.f1, .int .i64 x.f2, s, y] /\ k113.R 113 w base ok s x.f3 /\ Kd.string.R 9 w base ok y x.f4 := by
 obtain ⟨_, _, rfl, rfl, ⟨_, _, rfl, rfl, ⟨_, _, rfl, rfl, ⟨_, _, rfl, ⟨s, rfl, D⟩, ⟨y, rfl, I⟩⟩⟩⟩⟩ := h
 exact ⟨s, y, rfl, D, I⟩
theorem k82_mkM (w : World) (base : Nat) (ok : Nat -> Prop) (x : S82) {s : Value} (D : k113.R 113 w base ok s x.f3) {y : Value} (I : Kd.string.R 9 w base ok y x.f4) : k82.M w base ok x [.string x.f0, .int .i64 x.f1, .int .i64 x.f2, s, y] := ⟨[.string x.f0], [.int .i64 x.f1, .int .i64 x.f2, s, y], rfl, rfl, ⟨[.int .i64 x.f1], [.int .i64 x.f2, s, y], rfl, rfl, ⟨[.int .i64 x.f2], [s, y], rfl, rfl, ⟨[s], [y], rfl, ⟨s, rfl, D⟩, ⟨y, rfl, I⟩⟩⟩⟩⟩
def ax (xs : List S82) (i : Int) : S82 := xs.getD i.toNat z82
theorem em {w : World} {A : Option Addr} {n : Nat} {xs : List S82} (h : Kd.C k82 w A n xs) (i : Int) (D : 0 <= i) (h1 : i < n) : ∃ ad s c3 y c4, A = some ad /\ w.cell? (ad.add (i.toNat * 5)) = some (.string (ax xs i).f0) /\ w.cell? ⟨(ad.add (i.toNat * 5)).block, (ad.add (i.toNat * 5)).off + 1, none⟩ = some (.int .i64 (ax xs i).f1) /\ w.cell? ⟨(ad.add (i.toNat * 5)).block, (ad.add (i.toNat * 5)).off + 2, none⟩ = some (.int .i64 (ax xs i).f2) /\ w.cell? ⟨(ad.add (i.toNat * 5)).block, (ad.add (i.toNat * 5)).off + 3, none⟩ = some (.slice s (ax xs i).f3.length c3) /\ w.cell? ⟨(ad.add (i.toNat * 5)).block, (ad.add (i.toNat * 5)).off + 4, none⟩ = some (.slice y (ax xs i).f4.length c4) /\ (ax xs i).f3.length <= c3 /\ k113.C w s (ax xs i).f3.length (ax xs i).f3 /\ (ax xs i).f4.length <= c4 /\ Kd.string.C w y (ax xs i).f4.length (ax xs i).f4 := by
 obtain ⟨ad, c, e, _, hK, I⟩ := Kd.C_get h z82 i D h1
 have hc : ∀ j u, c[j]? = some u -> w.cell? (ad.add (i.toNat * 5 + j)) = some u := I
 obtain ⟨s, c3, y, c4, rfl, J, M, O, U⟩ := k82_open hK
 exact ⟨ad, s, c3, y, c4, e, hc 0 _ rfl, Z109, Z133, Z189, Z201, J, M, O, U⟩
structure S84 where
 f0 : ByteArray
 f1 : ByteArray
def z84 : S84 := ⟨(⟨#[]⟩ : ByteArray), (⟨#[]⟩ : ByteArray)⟩
def k84 : Kd S84 := Kd.iso (Kd.pair Kd.string Kd.string) (fun x : S84 => (x.f0, x.f1))
theorem k84_open {w : World} {x : S84} {cs : List Value} (h : k84.K w x cs) : cs = [.string x.f0, .string x.f1] := by
 obtain ⟨_, _, rfl, rfl, rfl⟩ := h
 exact rfl
theorem k84_openM {w : World} {base : Nat} {ok : Nat -> Prop} {x : S84} {cs : List Value} (h : k84.M w base ok x cs) : cs = [.string x.f0, .string x.f1] := by
 obtain ⟨_, _, rfl, rfl, rfl⟩ := h
 exact rfl
theorem k84_mkM (w : World) (base : Nat) (ok : Nat -> Prop) (x : S84)  : k84.M w base ok x [.string x.f0, .string x.f1] := ⟨[.string x.f0], [.string x.f1], rfl, rfl, rfl⟩
def ay (xs : List S84) (i : Int) : S84 := xs.getD i.toNat z84
theorem at_T84 {w : World} {A : Option Addr} {n : Nat} {xs : List S84} (h : Kd.C k84 w A n xs) (i : Int) (s : 0 <= i) (h1 : i < n) : ∃ ad , A = some ad /\ w.cell? (ad.add (i.toNat * 2)) = some (.string (ay xs i).f0) /\ w.cell? ⟨(ad.add (i.toNat * 2)).block, (ad.add (i.toNat * 2)).off + 1, none⟩ = some (.string (ay xs i).f1) := by
 obtain ⟨ad, c, e, _, hK, y⟩ := Kd.C_get h z84 i s h1
 have hc : ∀ j u, c[j]? = some u -> w.cell? (ad.add (i.toNat * 2 + j)) = some u := y
 obtain rfl := k84_open hK
 exact ⟨ad, e, hc 0 _ rfl, Z109⟩
structure S41 where
 f0 : Int
 f1 : Int
 f2 : Int
 f3 : Int
 f4 : ByteArray
 f5 : (List S84)
structure S32 where
 f0 : Int
 f1 : ByteArray
 f2 : Int
structure S35 where
 f0 : S32
 f1 : (List S82)
structure S23 where
 f0 : Int
 f1 : ByteArray
 f2 : Int
structure S26 where
 f0 : S23
 f1 : (List S68)
structure S29 where
 f0 : Int
 f1 : Int
 f2 : Int
 f3 : Int
 f4 : ByteArray
 f5 : (List S71)
theorem eqA113 (d : Nat) (w : World) (x0 s : Int) (x1 y : Int) (x2 D : ByteArray) :
  (Op.equalIn (d + 2) 113 (.agg #[.int .i64 x0, .int .i64 x1, .string x2]) (.agg #[.int .i64 s, .int .i64 y, .string D])).run prog w = .ok (x0 == s && (x1 == y && (x2.toList == D.toList))) w := by
 refine eqA_of underlying113 (Z16) ?_
 refine eqf_cons (Z96) (by go_simp; rfl) (by go_simp; rfl) (by go_simp) ?_
 refine eqf_cons (Z96) (by go_simp; rfl) (by go_simp; rfl) (by go_simp) ?_
 exact eqf_last (Z96) (by go_simp; rfl) (by go_simp; rfl) (by go_simp)
def laws_szLog.f (y : Int) (s : ByteArray) (D : Int) (a1 : Int) : Option (Int) := if (wrap64 (a1 - (s.size : Int))) < 0 then (some (-1)) else (some (wrap64 (a1 - (s.size : Int))))
theorem laws_szLog.calls (y : Int) (s : ByteArray) (D : Int) (a1 : Int) (r : Int) (w : World) (h : laws_szLog.f y s D a1 = some r) :
  Calls prog 15 #[.agg #[.int .i64 y, .string s, .int .i64 D], .int .i64 a1] w fun e w' => e = .returned (.int .i64 r) /\ Below w.heap.size w w' := by
 have U := underlying23
 have HB := aM (bi w.heap.size w)
 have H := h
 clear h
 unfold laws_szLog.f at H
 by_cases c3 : (wrap64 (a1 - (s.size : Int))) < 0
 ·rw [if_pos c3] at H
  have J := az c3
  clear c3
  obtain rfl := oI H
  go_enter func15, ntmps15
  go_wp2_with (first | ((with_reducible refine gD 2 ?_); refine bxF w 2 #[.int .i64 y, .string s, .int .i64 D] 23 (Z0) ?_; intro M hg w4 I O GE101 HB hb; clear hb hg; refine bD3 I ?_; intros))
  go_ret
  exact ⟨Z1, Z186⟩
 rw [if_neg c3] at H
 have J := ba c3
 clear c3
 obtain rfl := oI H
 go_enter func15, ntmps15
 go_wp2_with (first | ((with_reducible refine gD 2 ?_); refine bxF w 2 #[.int .i64 y, .string s, .int .i64 D] 23 (Z0) ?_; intro M hg w6 I O GE101 HB hb; clear hb hg; refine bD3 I ?_; intros))
 go_ret
 exact ⟨Z1, Z186⟩
def laws_szStored.f (y : Int) (D : Int) (s : ByteArray) (a1 : Int) : Option (Int) := if (wrap64 (a1 - (s.size : Int))) < 0 then (some (-1)) else (some (wrap64 (a1 - (s.size : Int))))
theorem laws_szStored.calls (y : Int) (D : Int) (s : ByteArray) (a1 : Int) (r : Int) (w : World) (h : laws_szStored.f y D s a1 = some r) :
  Calls prog 108 #[.agg #[.int .i64 y, .int .i64 D, .string s], .int .i64 a1] w fun e w' => e = .returned (.int .i64 r) /\ Below w.heap.size w w' := by
 have U := underlying136
 have HB := aM (bi w.heap.size w)
 have H := h
 clear h
 unfold laws_szStored.f at H
 by_cases c3 : (wrap64 (a1 - (s.size : Int))) < 0
 ·rw [if_pos c3] at H
  have J := az c3
  clear c3
  obtain rfl := oI H
  go_enter func108, ntmps108
  go_wp2_with (first | ((with_reducible refine gD 2 ?_); refine bxF w 2 #[.int .i64 y, .int .i64 D, .string s] 136 (Z0) ?_; intro M hg w4 I O GE102 HB hb; clear hb hg; refine bD3 I ?_; intros))
  go_ret
  exact ⟨Z1, Z187⟩
 rw [if_neg c3] at H
 have J := ba c3
 clear c3
 obtain rfl := oI H
 go_enter func108, ntmps108
 go_wp2_with (first | ((with_reducible refine gD 2 ?_); refine bxF w 2 #[.int .i64 y, .int .i64 D, .string s] 136 (Z0) ?_; intro M hg w6 I O GE102 HB hb; clear hb hg; refine bD3 I ?_; intros))
 go_ret
 exact ⟨Z1, Z187⟩
def dt.l0 : Nat -> List (S136) -> Int -> Int -> Option (Int)
 | 0, _, _, _ => none
 | k + 1, x0, x1, x5 => if x5 < (x0.length : Int) then (if 0 <= x5 then ((laws_szStored.f ((au x0 x5).f0) ((au x0 x5).f1) ((au x0 x5).f2) x1).bind fun s => (if s < 0 then (some (-1)) else (dt.l0 k x0 s (wrap64 (x5 + 1))))) else (none)) else (some x1)
def dt.f (k : Nat) (l0 : List (S136)) (a1 : Int) : Option (Int) := if (wrap64 (a1 - (l0.length : Int))) < 0 then (some (-1)) else (dt.l0 k l0 (wrap64 (a1 - (l0.length : Int))) 0)
theorem dt.calls (k : Nat) (X : Option Addr) (c0 : Nat) (l0 : List (S136)) (a1 : Int) (r : Int) (w : World) (hr0 : Kd.C k136 w X l0.length l0) (Y : l0.length <= c0) (h : dt.f k l0 a1 = some r) :
  Calls prog 67 #[.slice X l0.length c0, .int .i64 a1] w fun e w' => e = .returned (.int .i64 r) /\ Below w.heap.size w w' := by
 have aI := underlying136
 replace hr0 := aM hr0
 replace Y := aM Y
 have HB := aM (bi w.heap.size w)
 have H := h
 clear h
 unfold dt.f at H
 by_cases c3 : (wrap64 (a1 - (l0.length : Int))) < 0
 ·rw [if_pos c3] at H
  have Z := az c3
  clear c3
  obtain rfl := oI H
  go_enter func67, ntmps67
  go_wp2
  go_ret
  exact ⟨Z1, Z0⟩
 rw [if_neg c3] at H
 have Z := ba c3
 clear c3
 have H' := aM H
 clear H
 go_enter func67, ntmps67
 go_wp2
 go_loopg [1, 5] k (fun kq v1 v5 w' => ∃ (s : Int) (x5_1 : Int), v1 = .int .i64 s /\ v5 = .int .i64 x5_1 /\ ap (dt.l0 kq l0 s x5_1 = some r) /\ ap (kq <= k) /\ ap (Below w.heap.size w w'))
 case atStart => exact ⟨(wrap64 (a1 - (l0.length : Int))), (0), (Z3), (Z3), H', ⟨bj _⟩, ⟨Z0⟩⟩
 case round =>
  clear H'
  (try clear c3); (try clear Z)
  obtain ⟨s, x5_1, rfl, rfl, HA, HK1, HB⟩ := hrel
  cases gk with
  | zero => exact absurd HA.out (by simp [dt.l0])
  | succ k1 =>
   have H := HA.out
   clear HA
   simp only [dt.l0] at H
   by_cases c4 : x5_1 < (l0.length : Int)
   ·rw [if_pos c4] at H
    have aE := az c4
    clear c4
    obtain ⟨c5, H⟩ := ifS H
    have aJ := az c5
    clear c5
    obtain ⟨O, A6, H⟩ := cz H
    try dsimp only at H
    by_cases c7 : O < 0
    ·rw [if_pos c7] at H
     have aF := az c7
     clear c7
     obtain rfl := oI H
     have y : 0 <= (x5_1 : Int) := dT (Z4)
     have D : x5_1 < (l0.length : Int) := dT (Z4)
     obtain ⟨aG, U, I, J, M⟩ := at_T136 hr0.out x5_1 y D
     cases U
     replace I := cB HB.out I
     replace J := cB HB.out J
     replace M := cB HB.out M
     replace y := bh y
     replace D := bh D
     go_wp2_with (first | ((with_reducible refine gC 108 ?_); refine gL 23 func108 #[.agg #[.int .i64 ((au l0 x5_1).f0), .int .i64 ((au l0 x5_1).f1), .string ((au l0 x5_1).f2)], .int .i64 s] ?_; (with_reducible refine (laws_szStored.calls ((au l0 x5_1).f0) ((au l0 x5_1).f1) ((au l0 x5_1).f2) s O _ A6.out).mono ?_); rintro e w8 ⟨rfl, hb⟩; refine ⟨_, rfl, ?_⟩; replace HB := aM (ae (Z0) hb); (try clear hb); (try clear aH); (try clear hk); (try clear hi)))
     go_ret
     exact ⟨Z1, Z0⟩
    rw [if_neg c7] at H
    have aF := ba c7
    clear c7
    have H' := aM H
    clear H
    have y : 0 <= (x5_1 : Int) := dT (Z4)
    have D : x5_1 < (l0.length : Int) := dT (Z4)
    obtain ⟨aG, U, I, J, M⟩ := at_T136 hr0.out x5_1 y D
    cases U
    replace I := cB HB.out I
    replace J := cB HB.out J
    replace M := cB HB.out M
    replace y := bh y
    replace D := bh D
    go_wp2_with (first | ((with_reducible refine gC 108 ?_); refine gL 23 func108 #[.agg #[.int .i64 ((au l0 x5_1).f0), .int .i64 ((au l0 x5_1).f1), .string ((au l0 x5_1).f2)], .int .i64 s] ?_; (with_reducible refine (laws_szStored.calls ((au l0 x5_1).f0) ((au l0 x5_1).f1) ((au l0 x5_1).f2) s O _ A6.out).mono ?_); rintro e w9 ⟨rfl, hb⟩; refine ⟨_, rfl, ?_⟩; replace HB := aM (ae (Z0) hb); (try clear hb); (try clear aH); (try clear hk); (try clear hi)))
    go_roundg k1
    case measure => have := HK1.out; omega
    case rel => exact ⟨(O), (wrap64 (x5_1 + 1)), (Z3), (Z3), H', ⟨Z85⟩, ⟨Z0⟩⟩
   rw [if_neg c4] at H
   have aE := ba c4
   clear c4
   obtain rfl := oI H
   go_wp2
   go_ret
   exact ⟨Z1, Z0⟩
def dy.l0 : Nat -> List ByteArray -> Int -> Int -> Option (Int)
 | 0, _, _, _ => none
 | k + 1, x0, x1, x5 => if x5 < (x0.length : Int) then (if 0 <= x5 then (if (wrap64 (x1 - ((gb ByteArray.empty x0 x5).size : Int))) < 0 then (some (-1)) else (dy.l0 k x0 (wrap64 (x1 - ((gb ByteArray.empty x0 x5).size : Int))) (wrap64 (x5 + 1)))) else (none)) else (some x1)
def dy.f (k : Nat) (l0 : List ByteArray) (a1 : Int) : Option (Int) := if (wrap64 (a1 - (l0.length : Int))) < 0 then (some (-1)) else (dy.l0 k l0 (wrap64 (a1 - (l0.length : Int))) 0)
theorem dy.calls (k : Nat) (J : Option Addr) (c0 : Nat) (l0 : List ByteArray) (a1 : Int) (r : Int) (w : World) (hr0 : Kd.C Kd.string w J l0.length l0) (M : l0.length <= c0) (h : dy.f k l0 a1 = some r) :
  Calls prog 68 #[.slice J l0.length c0, .int .i64 a1] w fun e w' => e = .returned (.int .i64 r) /\ ew w w' := by
 replace hr0 := aM hr0
 replace M := aM M
 have H := h
 clear h
 unfold dy.f at H
 by_cases c3 : (wrap64 (a1 - (l0.length : Int))) < 0
 ·rw [if_pos c3] at H
  have O := az c3
  clear c3
  obtain rfl := oI H
  go_enter func68, ntmps68
  go_wp2
  go_ret
  exact ⟨Z3, Z12⟩
 rw [if_neg c3] at H
 have O := ba c3
 clear c3
 have H' := aM H
 clear H
 go_enter func68, ntmps68
 go_wp2
 go_loopg [1, 5] k (fun kq U X w' => ∃ (D : Int) (x5_1 : Int), U = .int .i64 D /\ X = .int .i64 x5_1 /\ ap (dy.l0 kq l0 D x5_1 = some r) /\ ap (kq <= k) /\ ew w w')
 case atStart => exact ⟨(wrap64 (a1 - (l0.length : Int))), (0), (Z3), (Z3), H', ⟨bj _⟩, Z12⟩
 case round =>
  clear H'
  (try clear c3); (try clear O)
  obtain ⟨D, x5_1, rfl, rfl, HA, HK1, ⟨m1, rfl⟩⟩ := hrel
  cases gk with
  | zero => exact absurd HA.out (by simp [dy.l0])
  | succ Y =>
   have H := HA.out
   clear HA
   simp only [dy.l0] at H
   by_cases c4 : x5_1 < (l0.length : Int)
   ·rw [if_pos c4] at H
    have Z := az c4
    clear c4
    obtain ⟨c5, H⟩ := ifS H
    have aD := az c5
    clear c5
    by_cases c6 : (wrap64 (D - ((gb ByteArray.empty l0 x5_1).size : Int))) < 0
    ·rw [if_pos c6] at H
     have aA := az c6
     clear c6
     obtain rfl := oI H
     have s : 0 <= (x5_1 : Int) := dT (Z4)
     have y : x5_1 < (l0.length : Int) := dT (Z4)
     obtain ⟨aB, I, aC⟩ := Kd.at_string hr0.out x5_1 s y
     cases I
     replace s := bh s
     replace y := bh y
     go_wp2
     go_ret
     exact ⟨Z3, Z12⟩
    rw [if_neg c6] at H
    have aA := ba c6
    clear c6
    have H' := aM H
    clear H
    have s : 0 <= (x5_1 : Int) := dT (Z4)
    have y : x5_1 < (l0.length : Int) := dT (Z4)
    obtain ⟨aB, I, aC⟩ := Kd.at_string hr0.out x5_1 s y
    cases I
    replace s := bh s
    replace y := bh y
    go_wp2
    go_roundg Y
    case measure => have := HK1.out; omega
    case rel => exact ⟨(wrap64 (D - ((gb ByteArray.empty l0 x5_1).size : Int))), (wrap64 (x5_1 + 1)), (Z3), (Z3), H', ⟨Z85⟩, Z12⟩
   rw [if_neg c4] at H
   have Z := ba c4
   clear c4
   obtain rfl := oI H
   go_wp2
   go_ret
   exact ⟨Z3, Z12⟩
def laws_szBox.f (k : Nat) (s : ByteArray) (J : Int) (M : Int) (l0_3 : List (S136)) (I : List ByteArray) (a1 : Int) : Option (Int) := if (wrap64 (a1 - (s.size : Int))) < 0 then (some (-1)) else ((dt.f k l0_3 (wrap64 (a1 - (s.size : Int)))).bind fun y => (if y < 0 then (some (-1)) else ((dy.f k I y).bind fun D => (if D < 0 then (some (-1)) else (some D)))))
theorem laws_szBox.calls (k : Nat) (s : ByteArray) (U : Int) (X : Int) (D : Option Addr) (I : Nat) (l0_3 : List (S136)) (J : Option Addr) (M : Nat) (y : List ByteArray) (a1 : Int) (r : Int) (w : World) (Z : Kd.C k136 w D l0_3.length l0_3) (aA : l0_3.length <= I) (aB : Kd.C Kd.string w J y.length y) (aC : y.length <= M) (h : laws_szBox.f k s U X l0_3 y a1 = some r) :
  Calls prog 34 #[.agg #[.string s, .int .i64 U, .int .i64 X, .slice D l0_3.length I, .slice J y.length M], .int .i64 a1] w fun e w' => e = .returned (.int .i64 r) /\ Below w.heap.size w w' := by
 have aL := underlying68
 replace Z := aM Z
 replace aA := aM aA
 replace aB := aM aB
 replace aC := aM aC
 have HB := aM (bi w.heap.size w)
 have H := h
 clear h
 unfold laws_szBox.f at H
 by_cases c3 : (wrap64 (a1 - (s.size : Int))) < 0
 ·rw [if_pos c3] at H
  have aI := az c3
  clear c3
  obtain rfl := oI H
  go_enter func34, ntmps34
  go_wp2_with (first | ((with_reducible refine gD 2 ?_); refine bxF w 2 #[.string s, .int .i64 U, .int .i64 X, .slice D l0_3.length I, .slice J y.length M] 68 (Z0) ?_; intro aD hg w4 BK106 aE GE106 HB hb; clear hb hg; refine bD5 BK106 ?_; intros))
  go_ret
  exact ⟨Z1, Z72⟩
 rw [if_neg c3] at H
 have aI := ba c3
 clear c3
 obtain ⟨O, A6, H⟩ := cz H
 try dsimp only at H
 by_cases c7 : O < 0
 ·rw [if_pos c7] at H
  have aJ := az c7
  clear c7
  obtain rfl := oI H
  go_enter func34, ntmps34
  go_wp2_with (first | ((with_reducible refine gD 2 ?_); refine bxF w 2 #[.string s, .int .i64 U, .int .i64 X, .slice D l0_3.length I, .slice J y.length M] 68 (Z0) ?_; intro aD hg w8 BK106 aE GE106 HB hb; clear hb hg; refine bD5 BK106 ?_; intros) | ((with_reducible refine gC 67 ?_); refine gL 15 func67 #[.slice D l0_3.length I, .int .i64 (wrap64 (a1 - (s.size : Int)))] ?_; (with_reducible refine (dt.calls k _ _ l0_3 (wrap64 (a1 - (s.size : Int))) O _ ?Y1 ?Y2 A6.out).mono ?_); (case Y1 => have h_ := Kd.C_below Z.out HB.out; exact tC); (case Y2 => exact aA.out); rintro e aO ⟨rfl, hb⟩; refine ⟨_, rfl, ?_⟩; replace BK106 := aM (kB BK106 (Z174) hb); replace HB := aM (ae (Z72) hb); (try clear hb)))
  go_ret
  exact ⟨Z1, Z72⟩
 rw [if_neg c7] at H
 have aJ := ba c7
 clear c7
 obtain ⟨aG, aH, H⟩ := cz H
 try dsimp only at H
 by_cases Y : aG < 0
 ·rw [if_pos Y] at H
  have aK := az Y
  clear Y
  obtain rfl := oI H
  go_enter func34, ntmps34
  go_wp2_with (first | ((with_reducible refine gD 2 ?_); refine bxF w 2 #[.string s, .int .i64 U, .int .i64 X, .slice D l0_3.length I, .slice J y.length M] 68 (Z0) ?_; intro aD hg aP BK106 aE GE106 HB hb; clear hb hg; refine bD5 BK106 ?_; intros) | ((with_reducible refine gC 67 ?_); refine gL 15 func67 #[.slice D l0_3.length I, .int .i64 (wrap64 (a1 - (s.size : Int)))] ?_; (with_reducible refine (dt.calls k _ _ l0_3 (wrap64 (a1 - (s.size : Int))) O _ ?Y1 ?Y2 A6.out).mono ?_); (case Y1 => have h_ := Kd.C_below Z.out HB.out; exact tC); (case Y2 => exact aA.out); rintro e aQ ⟨rfl, hb⟩; refine ⟨_, rfl, ?_⟩; replace BK106 := aM (kB BK106 (Z174) hb); replace HB := aM (ae (Z72) hb); (try clear hb); refine bD5 BK106 ?_; intros) | ((with_reducible refine gC 68 ?_); refine gL 21 func68 #[.slice J y.length M, .int .i64 O] ?_; (with_reducible refine (dy.calls k _ _ y O aG _ ?Y1 ?Y2 aH.out).mono ?_); (case Y1 => have h_ := Kd.C_below aB.out HB.out; exact tC); (case Y2 => exact aC.out); rintro e w' ⟨rfl, ⟨nd, rfl⟩⟩; refine ⟨_, rfl, ?_⟩))
  go_ret
  exact ⟨Z1, Z72⟩
 rw [if_neg Y] at H
 have aK := ba Y
 clear Y
 obtain rfl := oI H
 go_enter func34, ntmps34
 go_wp2_with (first | ((with_reducible refine gD 2 ?_); refine bxF w 2 #[.string s, .int .i64 U, .int .i64 X, .slice D l0_3.length I, .slice J y.length M] 68 (Z0) ?_; intro aD hg aR BK106 aE GE106 HB hb; clear hb hg; refine bD5 BK106 ?_; intros) | ((with_reducible refine gC 67 ?_); refine gL 15 func67 #[.slice D l0_3.length I, .int .i64 (wrap64 (a1 - (s.size : Int)))] ?_; (with_reducible refine (dt.calls k _ _ l0_3 (wrap64 (a1 - (s.size : Int))) O _ ?Y1 ?Y2 A6.out).mono ?_); (case Y1 => have h_ := Kd.C_below Z.out HB.out; exact tC); (case Y2 => exact aA.out); rintro e aS ⟨rfl, hb⟩; refine ⟨_, rfl, ?_⟩; replace BK106 := aM (kB BK106 (Z174) hb); replace HB := aM (ae (Z72) hb); (try clear hb); refine bD5 BK106 ?_; intros) | ((with_reducible refine gC 68 ?_); refine gL 21 func68 #[.slice J y.length M, .int .i64 O] ?_; (with_reducible refine (dy.calls k _ _ y O aG _ ?Y1 ?Y2 aH.out).mono ?_); (case Y1 => have h_ := Kd.C_below aB.out HB.out; exact tC); (case Y2 => exact aC.out); rintro e w' ⟨rfl, ⟨nd, rfl⟩⟩; refine ⟨_, rfl, ?_⟩))
 go_ret
 exact ⟨Z1, Z72⟩
def fh.l0 : Nat -> List (S68) -> Int -> Int -> Option (Int)
 | 0, _, _, _ => none
 | k + 1, x0, x1, x5 => if x5 < (x0.length : Int) then (if 0 <= x5 then ((laws_szBox.f k ((av x0 x5).f0) ((av x0 x5).f1) ((av x0 x5).f2) ((av x0 x5).f3) ((av x0 x5).f4) x1).bind fun s => (if s < 0 then (some (-1)) else (fh.l0 k x0 s (wrap64 (x5 + 1))))) else (none)) else (some x1)
def fh.f (k : Nat) (l0 : List (S68)) (a1 : Int) : Option (Int) := if (wrap64 (a1 - (l0.length : Int))) < 0 then (some (-1)) else (fh.l0 k l0 (wrap64 (a1 - (l0.length : Int))) 0)
theorem fh.calls (k : Nat) (A0 : Option Addr) (c0 : Nat) (l0 : List (S68)) (a1 : Int) (r : Int) (w : World) (hr0 : Kd.C k68 w A0 l0.length l0) (aO : l0.length <= c0) (h : fh.f k l0 a1 = some r) :
  Calls prog 16 #[.slice A0 l0.length c0, .int .i64 a1] w fun e w' => e = .returned (.int .i64 r) /\ Below w.heap.size w w' := by
 have aX := underlying68
 replace hr0 := aM hr0
 replace aO := aM aO
 have HB := aM (bi w.heap.size w)
 have H := h
 clear h
 unfold fh.f at H
 by_cases c3 : (wrap64 (a1 - (l0.length : Int))) < 0
 ·rw [if_pos c3] at H
  have aP := az c3
  clear c3
  obtain rfl := oI H
  go_enter func16, ntmps16
  go_wp2
  go_ret
  exact ⟨Z1, Z0⟩
 rw [if_neg c3] at H
 have aP := ba c3
 clear c3
 have H' := aM H
 clear H
 go_enter func16, ntmps16
 go_wp2
 go_loopg [1, 5] k (fun kq v1 v5 w' => ∃ (s : Int) (x5_1 : Int), v1 = .int .i64 s /\ v5 = .int .i64 x5_1 /\ ap (fh.l0 kq l0 s x5_1 = some r) /\ ap (kq <= k) /\ ap (Below w.heap.size w w'))
 case atStart => exact ⟨(wrap64 (a1 - (l0.length : Int))), (0), (Z3), (Z3), H', ⟨bj _⟩, ⟨Z0⟩⟩
 case round =>
  clear H'
  (try clear c3); (try clear aP)
  obtain ⟨s, x5_1, rfl, rfl, HA, HK1, HB⟩ := hrel
  cases gk with
  | zero => exact absurd HA.out (by simp [fh.l0])
  | succ k1 =>
   have H := HA.out
   clear HA
   simp only [fh.l0] at H
   by_cases c4 : x5_1 < (l0.length : Int)
   ·rw [if_pos c4] at H
    have aT := az c4
    clear c4
    obtain ⟨c5, H⟩ := ifS H
    have aY := az c5
    clear c5
    obtain ⟨aB, A6, H⟩ := cz H
    try dsimp only at H
    by_cases c7 : aB < 0
    ·rw [if_pos c7] at H
     have aU := az c7
     clear c7
     obtain rfl := oI H
     have y : 0 <= (x5_1 : Int) := dT (Z4)
     have D : x5_1 < (l0.length : Int) := dT (Z4)
     obtain ⟨aV, aD, aE, aF, aG, aH, I, J, M, O, U, X, Y, Z, aA⟩ := at_T68 hr0.out x5_1 y D
     cases aH
     replace I := cB HB.out I
     replace J := cB HB.out J
     replace M := cB HB.out M
     replace O := cB HB.out O
     replace U := cB HB.out U
     have aI := aM Y
     have aJ := aM X
     clear Y X
     have aK := aM aA
     have aL := aM Z
     clear aA Z
     replace y := bh y
     replace D := bh D
     go_wp2_with (first | ((with_reducible refine gC 34 ?_); refine gL 23 func34 #[.agg #[.string ((av l0 x5_1).f0), .int .i64 ((av l0 x5_1).f1), .int .i64 ((av l0 x5_1).f2), .slice aD ((av l0 x5_1).f3).length aE, .slice aF ((av l0 x5_1).f4).length aG], .int .i64 s] ?_; (with_reducible refine (laws_szBox.calls k1 ((av l0 x5_1).f0) ((av l0 x5_1).f1) ((av l0 x5_1).f2) _ _ ((av l0 x5_1).f3) _ _ ((av l0 x5_1).f4) s aB _ ?Y1 ?Y2 ?Y3 ?Y4 A6.out).mono ?_); (case Y1 => have h_ := Kd.C_below aI.out HB.out; exact tC); (case Y2 => exact aJ.out); (case Y3 => have h_ := Kd.C_below aK.out HB.out; exact tC); (case Y4 => exact aL.out); rintro e w8 ⟨rfl, hb⟩; refine ⟨_, rfl, ?_⟩; replace HB := aM (ae (Z0) hb); (try clear hb); (try clear aW); (try clear hk); (try clear hi)))
     go_ret
     exact ⟨Z1, Z0⟩
    rw [if_neg c7] at H
    have aU := ba c7
    clear c7
    have H' := aM H
    clear H
    have y : 0 <= (x5_1 : Int) := dT (Z4)
    have D : x5_1 < (l0.length : Int) := dT (Z4)
    obtain ⟨aV, aD, aE, aF, aG, aH, I, J, M, O, U, X, Y, Z, aA⟩ := at_T68 hr0.out x5_1 y D
    cases aH
    replace I := cB HB.out I
    replace J := cB HB.out J
    replace M := cB HB.out M
    replace O := cB HB.out O
    replace U := cB HB.out U
    have aI := aM Y
    have aJ := aM X
    clear Y X
    have aK := aM aA
    have aL := aM Z
    clear aA Z
    replace y := bh y
    replace D := bh D
    go_wp2_with (first | ((with_reducible refine gC 34 ?_); refine gL 23 func34 #[.agg #[.string ((av l0 x5_1).f0), .int .i64 ((av l0 x5_1).f1), .int .i64 ((av l0 x5_1).f2), .slice aD ((av l0 x5_1).f3).length aE, .slice aF ((av l0 x5_1).f4).length aG], .int .i64 s] ?_; (with_reducible refine (laws_szBox.calls k1 ((av l0 x5_1).f0) ((av l0 x5_1).f1) ((av l0 x5_1).f2) _ _ ((av l0 x5_1).f3) _ _ ((av l0 x5_1).f4) s aB _ ?Y1 ?Y2 ?Y3 ?Y4 A6.out).mono ?_); (case Y1 => have h_ := Kd.C_below aI.out HB.out; exact tC); (case Y2 => exact aJ.out); (case Y3 => have h_ := Kd.C_below aK.out HB.out; exact tC); (case Y4 => exact aL.out); rintro e w9 ⟨rfl, hb⟩; refine ⟨_, rfl, ?_⟩; replace HB := aM (ae (Z0) hb); (try clear hb); (try clear aW); (try clear hk); (try clear hi)))
    go_roundg k1
    case measure => have := HK1.out; omega
    case rel => exact ⟨(aB), (wrap64 (x5_1 + 1)), (Z3), (Z3), H', ⟨Z85⟩, ⟨Z0⟩⟩
   rw [if_neg c4] at H
   have aT := ba c4
   clear c4
   obtain rfl := oI H
   go_wp2
   go_ret
   exact ⟨Z1, Z0⟩
def laws_szEngine.f (k : Nat) (D : Int) (I : ByteArray) (J : Int) (l0_3 : List (S68)) (a1 : Int) : Option (Int) := (laws_szLog.f D I J a1).bind fun s => (if s < 0 then (some (-1)) else ((fh.f k l0_3 s).bind fun y => (if y < 0 then (some (-1)) else (some y))))
theorem laws_szEngine.calls (k : Nat) (s : Int) (y : ByteArray) (D : Int) (J : Option Addr) (M : Nat) (l0_3 : List (S68)) (a1 : Int) (r : Int) (w : World) (O : Kd.C k68 w J l0_3.length l0_3) (U : l0_3.length <= M) (h : laws_szEngine.f k s y D l0_3 a1 = some r) :
  Calls prog 4 #[.agg #[.int .i64 s, .string y, .int .i64 D, .slice J l0_3.length M], .int .i64 a1] w fun e w' => e = .returned (.int .i64 r) /\ Below w.heap.size w w' := by
 have aE := underlying26
 have aF := underlying23
 replace O := aM O
 replace U := aM U
 have HB := aM (bi w.heap.size w)
 have H := h
 clear h
 unfold laws_szEngine.f at H
 obtain ⟨I, X, H⟩ := cz H
 try dsimp only at H
 by_cases c4 : I < 0
 ·rw [if_pos c4] at H
  have aC := az c4
  clear c4
  obtain rfl := oI H
  go_enter func4, ntmps4
  go_wp2_with (first | ((with_reducible refine gD 2 ?_); refine bxF w 2 #[.int .i64 s, .string y, .int .i64 D, .slice J l0_3.length M] 26 (Z0) ?_; intro Z hg w5 BK111 aA GE111 HB hb; clear hb hg; refine bD4 BK111 ?_; intros) | ((with_reducible refine gC 15 ?_); refine gL 8 func15 #[.agg #[.int .i64 s, .string y, .int .i64 D], .int .i64 a1] ?_; (with_reducible refine (laws_szLog.calls s y D a1 I _ X.out).mono ?_); rintro e w7 ⟨rfl, hb⟩; refine ⟨_, rfl, ?_⟩; replace BK111 := aM (kB BK111 (Z112) hb); replace HB := aM (ae (Z67) hb); (try clear hb)))
  go_ret
  exact ⟨Z1, Z67⟩
 rw [if_neg c4] at H
 have aC := ba c4
 clear c4
 obtain ⟨Y, A8, H⟩ := cz H
 try dsimp only at H
 by_cases c9 : Y < 0
 ·rw [if_pos c9] at H
  have aD := az c9
  clear c9
  obtain rfl := oI H
  go_enter func4, ntmps4
  go_wp2_with (first | ((with_reducible refine gD 2 ?_); refine bxF w 2 #[.int .i64 s, .string y, .int .i64 D, .slice J l0_3.length M] 26 (Z0) ?_; intro Z hg aG BK111 aA GE111 HB hb; clear hb hg; refine bD4 BK111 ?_; intros) | ((with_reducible refine gC 15 ?_); refine gL 8 func15 #[.agg #[.int .i64 s, .string y, .int .i64 D], .int .i64 a1] ?_; (with_reducible refine (laws_szLog.calls s y D a1 I _ X.out).mono ?_); rintro e aH ⟨rfl, hb⟩; refine ⟨_, rfl, ?_⟩; replace BK111 := aM (kB BK111 (Z112) hb); replace HB := aM (ae (Z67) hb); (try clear hb); refine bD4 BK111 ?_; intros) | ((with_reducible refine gC 16 ?_); refine gL 14 func16 #[.slice J l0_3.length M, .int .i64 I] ?_; (with_reducible refine (fh.calls k _ _ l0_3 I Y _ ?Y1 ?Y2 A8.out).mono ?_); (case Y1 => have h_ := Kd.C_below O.out HB.out; exact tC); (case Y2 => exact U.out); rintro e aI ⟨rfl, hb⟩; refine ⟨_, rfl, ?_⟩; replace BK111 := aM (kB BK111 (Z112) hb); replace HB := aM (ae (Z67) hb); (try clear hb)))
  go_ret
  exact ⟨Z1, Z67⟩
 rw [if_neg c9] at H
 have aD := ba c9
 clear c9
 obtain rfl := oI H
 go_enter func4, ntmps4
 go_wp2_with (first | ((with_reducible refine gD 2 ?_); refine bxF w 2 #[.int .i64 s, .string y, .int .i64 D, .slice J l0_3.length M] 26 (Z0) ?_; intro Z hg aJ BK111 aA GE111 HB hb; clear hb hg; refine bD4 BK111 ?_; intros) | ((with_reducible refine gC 15 ?_); refine gL 8 func15 #[.agg #[.int .i64 s, .string y, .int .i64 D], .int .i64 a1] ?_; (with_reducible refine (laws_szLog.calls s y D a1 I _ X.out).mono ?_); rintro e aK ⟨rfl, hb⟩; refine ⟨_, rfl, ?_⟩; replace BK111 := aM (kB BK111 (Z112) hb); replace HB := aM (ae (Z67) hb); (try clear hb); refine bD4 BK111 ?_; intros) | ((with_reducible refine gC 16 ?_); refine gL 14 func16 #[.slice J l0_3.length M, .int .i64 I] ?_; (with_reducible refine (fh.calls k _ _ l0_3 I Y _ ?Y1 ?Y2 A8.out).mono ?_); (case Y1 => have h_ := Kd.C_below O.out HB.out; exact tC); (case Y2 => exact U.out); rintro e aL ⟨rfl, hb⟩; refine ⟨_, rfl, ?_⟩; replace BK111 := aM (kB BK111 (Z112) hb); replace HB := aM (ae (Z67) hb); (try clear hb)))
 go_ret
 exact ⟨Z1, Z67⟩
def laws_szItem.f (s : ByteArray) (y : ByteArray) (a1 : Int) : Option (Int) := if (wrap64 (a1 - (s.size : Int))) < 0 then (some (-1)) else (if (wrap64 ((wrap64 (a1 - (s.size : Int))) - (y.size : Int))) < 0 then (some (-1)) else (some (wrap64 ((wrap64 (a1 - (s.size : Int))) - (y.size : Int)))))
theorem laws_szItem.calls (s : ByteArray) (y : ByteArray) (a1 : Int) (r : Int) (w : World) (h : laws_szItem.f s y a1 = some r) :
  Calls prog 35 #[.agg #[.string s, .string y], .int .i64 a1] w fun e w' => e = .returned (.int .i64 r) /\ Below w.heap.size w w' := by
 have U := underlying71
 have HB := aM (bi w.heap.size w)
 have H := h
 clear h
 unfold laws_szItem.f at H
 by_cases c3 : (wrap64 (a1 - (s.size : Int))) < 0
 ·rw [if_pos c3] at H
  have M := az c3
  clear c3
  obtain rfl := oI H
  go_enter func35, ntmps35
  go_wp2_with (first | ((with_reducible refine gD 2 ?_); refine bxF w 2 #[.string s, .string y] 71 (Z0) ?_; intro I hg w4 D J GE114 HB hb; clear hb hg; refine bD2 D ?_; intros))
  go_ret
  exact ⟨Z1, Z140⟩
 rw [if_neg c3] at H
 have M := ba c3
 clear c3
 by_cases c6 : (wrap64 ((wrap64 (a1 - (s.size : Int))) - (y.size : Int))) < 0
 ·rw [if_pos c6] at H
  have O := az c6
  clear c6
  obtain rfl := oI H
  go_enter func35, ntmps35
  go_wp2_with (first | ((with_reducible refine gD 2 ?_); refine bxF w 2 #[.string s, .string y] 71 (Z0) ?_; intro I hg w7 D J GE114 HB hb; clear hb hg; refine bD2 D ?_; intros))
  go_ret
  exact ⟨Z1, Z140⟩
 rw [if_neg c6] at H
 have O := ba c6
 clear c6
 obtain rfl := oI H
 go_enter func35, ntmps35
 go_wp2_with (first | ((with_reducible refine gD 2 ?_); refine bxF w 2 #[.string s, .string y] 71 (Z0) ?_; intro I hg X D J GE114 HB hb; clear hb hg; refine bD2 D ?_; intros))
 go_ret
 exact ⟨Z1, Z140⟩
def ek.l0 : Nat -> List (S71) -> Int -> Int -> Option (Int)
 | 0, _, _, _ => none
 | k + 1, x0, x1, x5 => if x5 < (x0.length : Int) then (if 0 <= x5 then ((laws_szItem.f ((aw x0 x5).f0) ((aw x0 x5).f1) x1).bind fun s => (if s < 0 then (some (-1)) else (ek.l0 k x0 s (wrap64 (x5 + 1))))) else (none)) else (some x1)
def ek.f (k : Nat) (l0 : List (S71)) (a1 : Int) : Option (Int) := if (wrap64 (a1 - (l0.length : Int))) < 0 then (some (-1)) else (ek.l0 k l0 (wrap64 (a1 - (l0.length : Int))) 0)
theorem ek.calls (k : Nat) (U : Option Addr) (c0 : Nat) (l0 : List (S71)) (a1 : Int) (r : Int) (w : World) (hr0 : Kd.C k71 w U l0.length l0) (X : l0.length <= c0) (h : ek.f k l0 a1 = some r) :
  Calls prog 17 #[.slice U l0.length c0, .int .i64 a1] w fun e w' => e = .returned (.int .i64 r) /\ Below w.heap.size w w' := by
 have aH := underlying71
 replace hr0 := aM hr0
 replace X := aM X
 have HB := aM (bi w.heap.size w)
 have H := h
 clear h
 unfold ek.f at H
 by_cases c3 : (wrap64 (a1 - (l0.length : Int))) < 0
 ·rw [if_pos c3] at H
  have Y := az c3
  clear c3
  obtain rfl := oI H
  go_enter func17, ntmps17
  go_wp2
  go_ret
  exact ⟨Z1, Z0⟩
 rw [if_neg c3] at H
 have Y := ba c3
 clear c3
 have H' := aM H
 clear H
 go_enter func17, ntmps17
 go_wp2
 go_loopg [1, 5] k (fun kq v1 v5 w' => ∃ (s : Int) (x5_1 : Int), v1 = .int .i64 s /\ v5 = .int .i64 x5_1 /\ ap (ek.l0 kq l0 s x5_1 = some r) /\ ap (kq <= k) /\ ap (Below w.heap.size w w'))
 case atStart => exact ⟨(wrap64 (a1 - (l0.length : Int))), (0), (Z3), (Z3), H', ⟨bj _⟩, ⟨Z0⟩⟩
 case round =>
  clear H'
  (try clear c3); (try clear Y)
  obtain ⟨s, x5_1, rfl, rfl, HA, HK1, HB⟩ := hrel
  cases gk with
  | zero => exact absurd HA.out (by simp [ek.l0])
  | succ k1 =>
   have H := HA.out
   clear HA
   simp only [ek.l0] at H
   by_cases c4 : x5_1 < (l0.length : Int)
   ·rw [if_pos c4] at H
    have aD := az c4
    clear c4
    obtain ⟨c5, H⟩ := ifS H
    have aI := az c5
    clear c5
    obtain ⟨M, Z, H⟩ := cz H
    try dsimp only at H
    by_cases c7 : M < 0
    ·rw [if_pos c7] at H
     have aE := az c7
     clear c7
     obtain rfl := oI H
     have y : 0 <= (x5_1 : Int) := dT (Z4)
     have D : x5_1 < (l0.length : Int) := dT (Z4)
     obtain ⟨aF, O, I, J⟩ := at_T71 hr0.out x5_1 y D
     cases O
     replace I := cB HB.out I
     replace J := cB HB.out J
     replace y := bh y
     replace D := bh D
     go_wp2_with (first | ((with_reducible refine gC 35 ?_); refine gL 23 func35 #[.agg #[.string ((aw l0 x5_1).f0), .string ((aw l0 x5_1).f1)], .int .i64 s] ?_; (with_reducible refine (laws_szItem.calls ((aw l0 x5_1).f0) ((aw l0 x5_1).f1) s M _ Z.out).mono ?_); rintro e w8 ⟨rfl, hb⟩; refine ⟨_, rfl, ?_⟩; replace HB := aM (ae (Z0) hb); (try clear hb); (try clear aG); (try clear hk); (try clear hi)))
     go_ret
     exact ⟨Z1, Z0⟩
    rw [if_neg c7] at H
    have aE := ba c7
    clear c7
    have H' := aM H
    clear H
    have y : 0 <= (x5_1 : Int) := dT (Z4)
    have D : x5_1 < (l0.length : Int) := dT (Z4)
    obtain ⟨aF, O, I, J⟩ := at_T71 hr0.out x5_1 y D
    cases O
    replace I := cB HB.out I
    replace J := cB HB.out J
    replace y := bh y
    replace D := bh D
    go_wp2_with (first | ((with_reducible refine gC 35 ?_); refine gL 23 func35 #[.agg #[.string ((aw l0 x5_1).f0), .string ((aw l0 x5_1).f1)], .int .i64 s] ?_; (with_reducible refine (laws_szItem.calls ((aw l0 x5_1).f0) ((aw l0 x5_1).f1) s M _ Z.out).mono ?_); rintro e w9 ⟨rfl, hb⟩; refine ⟨_, rfl, ?_⟩; replace HB := aM (ae (Z0) hb); (try clear hb); (try clear aG); (try clear hk); (try clear hi)))
    go_roundg k1
    case measure => have := HK1.out; omega
    case rel => exact ⟨(M), (wrap64 (x5_1 + 1)), (Z3), (Z3), H', ⟨Z85⟩, ⟨Z0⟩⟩
   rw [if_neg c4] at H
   have aD := ba c4
   clear c4
   obtain rfl := oI H
   go_wp2
   go_ret
   exact ⟨Z1, Z0⟩
def laws_szMutation.f (k : Nat) (I : Int) (J : Int) (M : Int) (O : Int) (s : ByteArray) (D : List (S71)) (a1 : Int) : Option (Int) := if (wrap64 (a1 - (s.size : Int))) < 0 then (some (-1)) else ((ek.f k D (wrap64 (a1 - (s.size : Int)))).bind fun y => (if y < 0 then (some (-1)) else (some y)))
theorem laws_szMutation.calls (k : Nat) (M : Int) (O : Int) (U : Int) (X : Int) (y : ByteArray) (I : Option Addr) (J : Nat) (s : List (S71)) (a1 : Int) (r : Int) (w : World) (Y : Kd.C k71 w I s.length s) (Z : s.length <= J) (h : laws_szMutation.f k M O U X y s a1 = some r) :
  Calls prog 5 #[.agg #[.int .i64 M, .int .i64 O, .int .i64 U, .int .i64 X, .string y, .slice I s.length J], .int .i64 a1] w fun e w' => e = .returned (.int .i64 r) /\ Below w.heap.size w w' := by
 have aG := underlying29
 replace Y := aM Y
 replace Z := aM Z
 have HB := aM (bi w.heap.size w)
 have H := h
 clear h
 unfold laws_szMutation.f at H
 by_cases c3 : (wrap64 (a1 - (y.size : Int))) < 0
 ·rw [if_pos c3] at H
  have aE := az c3
  clear c3
  obtain rfl := oI H
  go_enter func5, ntmps5
  go_wp2_with (first | ((with_reducible refine gD 2 ?_); refine bxF w 2 #[.int .i64 M, .int .i64 O, .int .i64 U, .int .i64 X, .string y, .slice I s.length J] 29 (Z0) ?_; intro aB hg w4 D aC GE117 HB hb; clear hb hg; refine bD6 D ?_; intros))
  go_ret
  exact ⟨Z1, Z87⟩
 rw [if_neg c3] at H
 have aE := ba c3
 clear c3
 obtain ⟨aA, A6, H⟩ := cz H
 try dsimp only at H
 by_cases c7 : aA < 0
 ·rw [if_pos c7] at H
  have aF := az c7
  clear c7
  obtain rfl := oI H
  go_enter func5, ntmps5
  go_wp2_with (first | ((with_reducible refine gD 2 ?_); refine bxF w 2 #[.int .i64 M, .int .i64 O, .int .i64 U, .int .i64 X, .string y, .slice I s.length J] 29 (Z0) ?_; intro aB hg w8 D aC GE117 HB hb; clear hb hg; refine bD6 D ?_; intros) | ((with_reducible refine gC 17 ?_); refine gL 15 func17 #[.slice I s.length J, .int .i64 (wrap64 (a1 - (y.size : Int)))] ?_; (with_reducible refine (ek.calls k _ _ s (wrap64 (a1 - (y.size : Int))) aA _ ?Y1 ?Y2 A6.out).mono ?_); (case Y1 => have h_ := Kd.C_below Y.out HB.out; exact tC); (case Y2 => exact Z.out); rintro e aI ⟨rfl, hb⟩; refine ⟨_, rfl, ?_⟩; replace D := aM (kB D zB hb); replace HB := aM (ae (Z87) hb); (try clear hb)))
  go_ret
  exact ⟨Z1, Z87⟩
 rw [if_neg c7] at H
 have aF := ba c7
 clear c7
 obtain rfl := oI H
 go_enter func5, ntmps5
 go_wp2_with (first | ((with_reducible refine gD 2 ?_); refine bxF w 2 #[.int .i64 M, .int .i64 O, .int .i64 U, .int .i64 X, .string y, .slice I s.length J] 29 (Z0) ?_; intro aB hg aJ D aC GE117 HB hb; clear hb hg; refine bD6 D ?_; intros) | ((with_reducible refine gC 17 ?_); refine gL 15 func17 #[.slice I s.length J, .int .i64 (wrap64 (a1 - (y.size : Int)))] ?_; (with_reducible refine (ek.calls k _ _ s (wrap64 (a1 - (y.size : Int))) aA _ ?Y1 ?Y2 A6.out).mono ?_); (case Y1 => have h_ := Kd.C_below Y.out HB.out; exact tC); (case Y2 => exact Z.out); rintro e aK ⟨rfl, hb⟩; refine ⟨_, rfl, ?_⟩; replace D := aM (kB D zB hb); replace HB := aM (ae (Z87) hb); (try clear hb)))
 go_ret
 exact ⟨Z1, Z87⟩
def cf.f (a0 : Int) (a1 : Int) (s : Int) : Option (Bool) := if a0 ≥ a1 then (some (decide (a0 <= s))) else (some false)
theorem cf.calls (a0 : Int) (a1 : Int) (s : Int) (r : Bool) (w : World) (h : cf.f a0 a1 s = some r) :
  Calls prog 75 #[.int .i64 a0, .int .i64 a1, .int .i64 s] w fun e w' => e = .returned (.bool r) /\ ew w w' := by
 have H := h
 clear h
 unfold cf.f at H
 by_cases c4 : a0 ≥ a1
 ·rw [if_pos c4] at H
  have y : decide (a1 <= a0) = true := az c4
  clear c4
  obtain rfl := oI H
  go_enter func75, ntmps75
  go_wp2
  go_ret
  exact ⟨Z3, Z12⟩
 rw [if_neg c4] at H
 have y : decide (a1 <= a0) = false := ba c4
 clear c4
 obtain rfl := oI H
 go_enter func75, ntmps75
 go_wp2
 go_ret
 exact ⟨Z3, Z12⟩
def spec_LogOK.f (s : Int) (y : ByteArray) (D : Int) : Option (Bool) := (cf.f s 0 60000).bind fun I => (if I = true then (if (y.size : Int) <= s then ((cf.f D 0 (y.size : Int)).bind fun J => (some J)) else (some false)) else (some false))
theorem spec_LogOK.calls (s : Int) (y : ByteArray) (D : Int) (r : Bool) (w : World) (h : spec_LogOK.f s y D = some r) :
  Calls prog 69 #[.agg #[.int .i64 s, .string y, .int .i64 D]] w fun e w' => e = .returned (.bool r) /\ Below w.heap.size w w' := by
 have aA := underlying32
 have HB := aM (bi w.heap.size w)
 have H := h
 clear h
 unfold spec_LogOK.f at H
 obtain ⟨U, J, H⟩ := cz H
 try dsimp only at H
 by_cases c3 : U = true
 ·subst c3
  replace H := ifT H
  by_cases c4 : (y.size : Int) <= s
  ·rw [if_pos c4] at H
   have X := az c4
   clear c4
   obtain ⟨Y, Z, H⟩ := cz H
   try dsimp only at H
   obtain rfl := oI H
   go_enter func69, ntmps69
   go_wp2_with (first | ((with_reducible refine gD 1 ?_); (try (refine dl (Z96) ?_; dsimp only)); refine bxF w 1 #[.int .i64 s, .string y, .int .i64 D] 32 (Z0) ?_; intro M hg w6 I O GE119 HB hb; clear hb hg; refine bD3 I ?_; intros) | ((with_reducible refine gC 75 ?_); refine gL 5 func75 #[.int .i64 s, .int .i64 0, .int .i64 60000] ?_; (with_reducible refine (cf.calls s 0 60000 true _ J.out).mono ?_); rintro e w' ⟨rfl, ⟨nd, rfl⟩⟩; refine ⟨_, rfl, ?_⟩) | (go_at_call 75; (with_reducible refine (cf.calls D 0 (y.size : Int) Y _ Z.out).mono ?_); rintro e w' ⟨rfl, ⟨nd, rfl⟩⟩))
   go_ret
   exact ⟨Z1, Z141⟩
  rw [if_neg c4] at H
  have X := ba c4
  clear c4
  obtain rfl := oI H
  go_enter func69, ntmps69
  go_wp2_with (first | ((with_reducible refine gD 1 ?_); (try (refine dl (Z96) ?_; dsimp only)); refine bxF w 1 #[.int .i64 s, .string y, .int .i64 D] 32 (Z0) ?_; intro M hg w8 I O GE119 HB hb; clear hb hg; refine bD3 I ?_; intros) | ((with_reducible refine gC 75 ?_); refine gL 5 func75 #[.int .i64 s, .int .i64 0, .int .i64 60000] ?_; (with_reducible refine (cf.calls s 0 60000 true _ J.out).mono ?_); rintro e w' ⟨rfl, ⟨nd, rfl⟩⟩; refine ⟨_, rfl, ?_⟩))
  go_ret
  exact ⟨Z1, Z141⟩
 replace c3 := be c3
 subst c3
 replace H := ifF H
 obtain rfl := oI H
 go_enter func69, ntmps69
 go_wp2_with (first | ((with_reducible refine gD 1 ?_); (try (refine dl (Z96) ?_; dsimp only)); refine bxF w 1 #[.int .i64 s, .string y, .int .i64 D] 32 (Z0) ?_; intro M hg aC I O GE119 HB hb; clear hb hg; refine bD3 I ?_; intros) | ((with_reducible refine gC 75 ?_); refine gL 5 func75 #[.int .i64 s, .int .i64 0, .int .i64 60000] ?_; (with_reducible refine (cf.calls s 0 60000 false _ J.out).mono ?_); rintro e w' ⟨rfl, ⟨nd, rfl⟩⟩; refine ⟨_, rfl, ?_⟩))
 go_ret
 exact ⟨Z1, Z141⟩
def dq.l0 : Nat -> List (S82) -> ByteArray -> Int -> Option (Int)
 | 0, _, _, _ => none
 | k + 1, x0, x1, x5 => if x5 < (x0.length : Int) then (if 0 <= x5 then (if ((ax x0 x5).f0).toList = x1.toList then (some x5) else (dq.l0 k x0 x1 (wrap64 (x5 + 1)))) else (none)) else (some (-1))
def dq.f (k : Nat) (l0 : List (S82)) (a1 : ByteArray) : Option (Int) := dq.l0 k l0 a1 0
theorem dq.calls (k : Nat) (U : Option Addr) (c0 : Nat) (l0 : List (S82)) (a1 : ByteArray) (r : Int) (w : World) (hr0 : Kd.C k82 w U l0.length l0) (X : l0.length <= c0) (h : dq.f k l0 a1 = some r) :
  Calls prog 76 #[.slice U l0.length c0, .string a1] w fun e w' => e = .returned (.int .i64 r) /\ ew w w' := by
 replace hr0 := aM hr0
 replace X := aM X
 have H := h
 clear h
 unfold dq.f at H
 have H' := aM H
 clear H
 go_enter func76, ntmps76
 go_wp2
 go_loopg [5] k (fun kq Y w' => ∃ (x5_1 : Int), Y = .int .i64 x5_1 /\ ap (dq.l0 kq l0 a1 x5_1 = some r) /\ ap (kq <= k) /\ ew w w')
 case atStart => exact ⟨(0), (Z3), H', ⟨bj _⟩, Z12⟩
 case round =>
  clear H'
  obtain ⟨x5_1, rfl, HA, HK1, ⟨m1, rfl⟩⟩ := hrel
  cases gk with
  | zero => exact absurd HA.out (by simp [dq.l0])
  | succ Z =>
   have H := HA.out
   clear HA
   simp only [dq.l0] at H
   by_cases c3 : x5_1 < (l0.length : Int)
   ·rw [if_pos c3] at H
    have aA := az c3
    clear c3
    obtain ⟨c4, H⟩ := ifS H
    have aS := az c4
    clear c4
    by_cases c5 : ((ax l0 x5_1).f0).toList = a1.toList
    ·rw [if_pos c5] at H
     have aB := bf c5
     have aC := bc c5
     clear c5
     obtain rfl := oI H
     have s : 0 <= (x5_1 : Int) := dT (Z4)
     have y : x5_1 < (l0.length : Int) := dT (Z4)
     obtain ⟨aD, aE, aF, aG, aH, O, aI, aJ, aK, aL, aN, D, I, J, M⟩ := em hr0.out x5_1 s y
     cases O
     have aO := aM I
     have aP := aM D
     clear I D
     have aQ := aM M
     have aR := aM J
     clear M J
     replace s := bh s
     replace y := bh y
     go_wp2
     go_ret
     exact ⟨Z3, Z12⟩
    rw [if_neg c5] at H
    have aB := bb c5
    have aC := bg c5
    have H' := aM H
    clear H
    have s : 0 <= (x5_1 : Int) := dT (Z4)
    have y : x5_1 < (l0.length : Int) := dT (Z4)
    obtain ⟨aD, aE, aF, aG, aH, O, aI, aJ, aK, aL, aN, D, I, J, M⟩ := em hr0.out x5_1 s y
    cases O
    have aO := aM I
    have aP := aM D
    clear I D
    have aQ := aM M
    have aR := aM J
    clear M J
    replace s := bh s
    replace y := bh y
    go_wp2
    go_roundg Z
    case measure => have := HK1.out; omega
    case rel => exact ⟨(wrap64 (x5_1 + 1)), (Z3), H', ⟨Z85⟩, Z12⟩
   rw [if_neg c3] at H
   have aA := ba c3
   clear c3
   obtain rfl := oI H
   go_wp2
   go_ret
   exact ⟨Z3, Z12⟩
def fw.f (a0 : Int) : Option (Bool) := if a0 ≥ 97 then (if a0 <= 122 then (some true) else (if a0 ≥ 65 then (if a0 <= 90 then (some true) else (some (a0 == 95))) else (some (a0 == 95)))) else (if a0 ≥ 65 then (if a0 <= 90 then (some true) else (some (a0 == 95))) else (some (a0 == 95)))
theorem fw.calls (a0 : Int) (r : Bool) (w : World) (h : fw.f a0 = some r) :
  Calls prog 131 #[.int .u8 a0] w fun e w' => e = .returned (.bool r) /\ ew w w' := by
 have H := h
 clear h
 unfold fw.f at H
 by_cases c2 : a0 ≥ 97
 ·rw [if_pos c2] at H
  have s : decide (97 <= a0) = true := az c2
  clear c2
  by_cases c3 : a0 <= 122
  ·rw [if_pos c3] at H
   have y := az c3
   clear c3
   obtain rfl := oI H
   go_enter func131, ntmps131
   go_wp2
   go_ret
   exact ⟨Z3, Z12⟩
  rw [if_neg c3] at H
  have y := ba c3
  clear c3
  by_cases c4 : a0 ≥ 65
  ·rw [if_pos c4] at H
   have D : decide (65 <= a0) = true := az c4
   clear c4
   by_cases c5 : a0 <= 90
   ·rw [if_pos c5] at H
    have I := az c5
    clear c5
    obtain rfl := oI H
    go_enter func131, ntmps131
    go_wp2
    go_ret
    exact ⟨Z3, Z12⟩
   rw [if_neg c5] at H
   have I := ba c5
   clear c5
   obtain rfl := oI H
   go_enter func131, ntmps131
   go_wp2
   go_ret
   exact ⟨Z3, Z12⟩
  rw [if_neg c4] at H
  have D : decide (65 <= a0) = false := ba c4
  clear c4
  obtain rfl := oI H
  go_enter func131, ntmps131
  go_wp2
  go_ret
  exact ⟨Z3, Z12⟩
 rw [if_neg c2] at H
 have s : decide (97 <= a0) = false := ba c2
 clear c2
 by_cases c6 : a0 ≥ 65
 ·rw [if_pos c6] at H
  have J : decide (65 <= a0) = true := az c6
  clear c6
  by_cases c7 : a0 <= 90
  ·rw [if_pos c7] at H
   have M := az c7
   clear c7
   obtain rfl := oI H
   go_enter func131, ntmps131
   go_wp2
   go_ret
   exact ⟨Z3, Z12⟩
  rw [if_neg c7] at H
  have M := ba c7
  clear c7
  obtain rfl := oI H
  go_enter func131, ntmps131
  go_wp2
  go_ret
  exact ⟨Z3, Z12⟩
 rw [if_neg c6] at H
 have J : decide (65 <= a0) = false := ba c6
 clear c6
 obtain rfl := oI H
 go_enter func131, ntmps131
 go_wp2
 go_ret
 exact ⟨Z3, Z12⟩
def spec_l00Digit.f (a0 : Int) : Option (Bool) := if a0 ≥ 48 then (some (decide (a0 <= 57))) else (some false)
theorem spec_l00Digit.calls (a0 : Int) (r : Bool) (w : World) (h : spec_l00Digit.f a0 = some r) :
  Calls prog 132 #[.int .u8 a0] w fun e w' => e = .returned (.bool r) /\ ew w w' := by
 have H := h
 clear h
 unfold spec_l00Digit.f at H
 by_cases c2 : a0 ≥ 48
 ·rw [if_pos c2] at H
  have s : decide (48 <= a0) = true := az c2
  clear c2
  obtain rfl := oI H
  go_enter func132, ntmps132
  go_wp2
  go_ret
  exact ⟨Z3, Z12⟩
 rw [if_neg c2] at H
 have s : decide (48 <= a0) = false := ba c2
 clear c2
 obtain rfl := oI H
 go_enter func132, ntmps132
 go_wp2
 go_ret
 exact ⟨Z3, Z12⟩
mutual
def dh.j0 : Nat -> ByteArray -> Bool -> Option (Bool)
 | 0, _, _ => none
 | k + 1, x0, x17 => if x17 = true then (some false) else (dh.l0 k x0 1)
def dh.l0 : Nat -> ByteArray -> Int -> Option (Bool)
 | 0, _, _ => none
 | k + 1, x0, x3 => if x3 < (x0.size : Int) then (if 0 <= x3 then ((fw.f (bt x0 x3)).bind fun s => (if s = true then (dh.l0 k x0 (wrap64 (x3 + 1))) else ((spec_l00Digit.f (bt x0 x3)).bind fun y => (if y = true then (dh.l0 k x0 (wrap64 (x3 + 1))) else (some false))))) else (none)) else (some true)
end
def dh.f (k : Nat) (a0 : ByteArray) : Option (Bool) := if (a0.size : Int) < 1 then (dh.j0 k a0 true) else (if (a0.size : Int) > 40 then (dh.j0 k a0 true) else (if 0 < (a0.size : Int) then ((fw.f (bt a0 0)).bind fun s => (dh.j0 k a0 (!s))) else (none)))
theorem dh.calls (k : Nat) (a0 : ByteArray) (r : Bool) (w : World) (h : dh.f k a0 = some r) :
  Calls prog 112 #[.string a0] w fun e w' => e = .returned (.bool r) /\ ew w w' := by
 have H := h
 clear h
 unfold dh.f at H
 have U := aM H
 clear H
 go_enter func112, ntmps112
 go_upto_region 1 with (fail)
 go_cut [17] (fun aF wc => ∃ (kq : Nat) (J : Bool), aF = .bool J /\ ap (dh.j0 kq a0 J = some r) /\ ap (kq <= k) /\ ew w wc)
 case first =>
  have H := U.out
  clear U
  by_cases c3 : (a0.size : Int) < 1
  ·rw [if_pos c3] at H
   have y := az c3
   have X : decide (a0.size < 1) = true := az (Z31)
   clear c3
   (first | rw [y] | rw [X] | (simp only [i64_w, i32_w]; rw [y]) | skip)
   have H' := aM H
   clear H
   go_wp2
   go_meet
   case rel => exact ⟨_, (true), (Z3), H', ⟨Z82⟩, Z12⟩
  rw [if_neg c3] at H
  have y := ba c3
  have X : decide (a0.size < 1) = false := ba (Z31)
  clear c3
  (first | rw [y] | rw [X] | (simp only [i64_w, i32_w]; rw [y]) | skip)
  by_cases c4 : (a0.size : Int) > 40
  ·rw [if_pos c4] at H
   have aG : decide (40 < (a0.size : Int)) = true := az c4
   have aH : decide (40 < a0.size) = true := az (Z31)
   clear c4
   have H' := aM H
   clear H
   go_wp2
   go_meet
   case rel => exact ⟨_, (true), (Z3), H', ⟨Z82⟩, Z12⟩
  rw [if_neg c4] at H
  have aG : decide (40 < (a0.size : Int)) = false := ba c4
  have aH : decide (40 < a0.size) = false := ba (Z31)
  clear c4
  obtain ⟨c5, H⟩ := ifS H
  have aP := az c5
  have aQ : decide (0 < a0.size) = true := az (Z31)
  clear c5
  obtain ⟨Z, A7, H⟩ := cz H
  try dsimp only at H
  have H' := aM H
  clear H
  have p6 : 0 <= (0 : Int) := (Z31)
  have q6 : 0 < a0.size := (by have : (0 : Int) < (a0.size : Int) := dT (Z4); omega)
  have aR : ∀ h : 0 < a0.size, ((a0[0]'h).toNat : Int) = bt a0 0 := bt_at a0 0
  clear p6
  have aS : (0 < (a0.size : Int)) = True := bh (dT (Z4))
  replace q6 := bh q6
  go_wp2_with (first | (go_at_call 131; (with_reducible refine (fw.calls (bt a0 0) Z _ A7.out).mono ?_); rintro e w' ⟨rfl, ⟨nd, rfl⟩⟩))
  go_meet
  case rel => exact ⟨_, (!Z), (Z3), H', ⟨Z82⟩, Z12⟩
 case rest =>
  clear U
  obtain ⟨kq, J, rfl, HA, HJ1, ⟨aT, rfl⟩⟩ := hcut
  cases kq with
  | zero => exact absurd HA.out (by simp [dh.j0])
  | succ aB =>
   have H := HA.out
   clear HA
   simp only [dh.j0] at H
   by_cases c8 : J = true
   ·subst c8
    replace H := ifT H
    obtain rfl := oI H
    go_wp2
    go_ret
    exact ⟨Z3, Z12⟩
   replace c8 := be c8
   subst c8
   replace H := ifF H
   have H' := aM H
   clear H
   go_wp2
   go_loopg [3] aB (fun kq v3 w' => ∃ (x3_2 : Int), v3 = .int .i64 x3_2 /\ ap (dh.l0 kq a0 x3_2 = some r) /\ ap (kq <= aB) /\ ew w w')
   case atStart => exact ⟨(1), (Z3), H', ⟨bj _⟩, Z12⟩
   case round =>
    clear H'
    (try clear c8)
    obtain ⟨x3_2, rfl, HA, HK2, ⟨m2, rfl⟩⟩ := hrel
    cases gk with
    | zero => exact absurd HA.out (by simp [dh.l0])
    | succ k2 =>
     have H := HA.out
     clear HA
     simp only [dh.l0] at H
     by_cases c9 : x3_2 < (a0.size : Int)
     ·rw [if_pos c9] at H
      have aK := az c9
      clear c9
      obtain ⟨c10, H⟩ := ifS H
      have aU := az c10
      clear c10
      obtain ⟨aL, Y, H⟩ := cz H
      try dsimp only at H
      by_cases M : aL = true
      ·subst M
       replace H := ifT H
       have H' := aM H
       clear H
       have p11 : 0 <= (x3_2 : Int) := dT (Z4)
       have s : x3_2 < (a0.size : Int) := dT (Z4)
       have aD := bt_at a0 x3_2
       replace p11 := bh p11
       replace s := bh s
       go_wp2_with (first | ((with_reducible refine gC 131 ?_); refine gL 27 func131 #[.int .u8 (bt a0 x3_2)] ?_; (with_reducible refine (fw.calls (bt a0 x3_2) true _ Y.out).mono ?_); rintro e w' ⟨rfl, ⟨nd, rfl⟩⟩; refine ⟨_, rfl, ?_⟩))
       go_roundg k2
       case measure => have := HJ1.out; have := HK2.out; omega
       case rel => exact ⟨(wrap64 (x3_2 + 1)), (Z3), H', ⟨Z172⟩, Z12⟩
      replace M := be M
      subst M
      replace H := ifF H
      obtain ⟨aN, aE, H⟩ := cz H
      try dsimp only at H
      by_cases O : aN = true
      ·subst O
       replace H := ifT H
       have H' := aM H
       clear H
       have p11 : 0 <= (x3_2 : Int) := dT (Z4)
       have s : x3_2 < (a0.size : Int) := dT (Z4)
       have aD := bt_at a0 x3_2
       replace p11 := bh p11
       replace s := bh s
       go_wp2_with (first | ((with_reducible refine gC 131 ?_); refine gL 27 func131 #[.int .u8 (bt a0 x3_2)] ?_; (with_reducible refine (fw.calls (bt a0 x3_2) false _ Y.out).mono ?_); rintro e w' ⟨rfl, ⟨nd, rfl⟩⟩; refine ⟨_, rfl, ?_⟩; have D : 0 <= (x3_2 : Int) := dT (Z4); have I : x3_2 < (a0.size : Int) := dT (Z4); have aO := bt_at a0 x3_2; replace D := bh D; replace I := bh I) | (go_at_call 132; (with_reducible refine (spec_l00Digit.calls (bt a0 x3_2) true _ aE.out).mono ?_); rintro e w' ⟨rfl, ⟨nd, rfl⟩⟩))
       go_roundg k2
       case measure => have := HJ1.out; have := HK2.out; omega
       case rel => exact ⟨(wrap64 (x3_2 + 1)), (Z3), H', ⟨Z172⟩, Z12⟩
      replace O := be O
      subst O
      replace H := ifF H
      obtain rfl := oI H
      have p11 : 0 <= (x3_2 : Int) := dT (Z4)
      have s : x3_2 < (a0.size : Int) := dT (Z4)
      have aD := bt_at a0 x3_2
      replace p11 := bh p11
      replace s := bh s
      go_wp2_with (first | ((with_reducible refine gC 131 ?_); refine gL 27 func131 #[.int .u8 (bt a0 x3_2)] ?_; (with_reducible refine (fw.calls (bt a0 x3_2) false _ Y.out).mono ?_); rintro e w' ⟨rfl, ⟨nd, rfl⟩⟩; refine ⟨_, rfl, ?_⟩; have D : 0 <= (x3_2 : Int) := dT (Z4); have I : x3_2 < (a0.size : Int) := dT (Z4); have aO := bt_at a0 x3_2; replace D := bh D; replace I := bh I) | (go_at_call 132; (with_reducible refine (spec_l00Digit.calls (bt a0 x3_2) false _ aE.out).mono ?_); rintro e w' ⟨rfl, ⟨nd, rfl⟩⟩))
      go_ret
      exact ⟨Z3, Z12⟩
     rw [if_neg c9] at H
     have aK := ba c9
     clear c9
     obtain rfl := oI H
     go_wp2
     go_ret
     exact ⟨Z3, Z12⟩
def fq.f (k : Nat) (a0 : ByteArray) : Option (Bool) := (dh.f k a0).bind fun s => (some s)
theorem fq.calls (k : Nat) (a0 : ByteArray) (r : Bool) (w : World) (h : fq.f k a0 = some r) :
  Calls prog 74 #[.string a0] w fun e w' => e = .returned (.bool r) /\ ew w w' := by
 have H := h
 clear h
 unfold fq.f at H
 obtain ⟨s, y, H⟩ := cz H
 try dsimp only at H
 obtain rfl := oI H
 go_enter func74, ntmps74
 go_wp2_with (first | ((with_reducible refine gC 112 ?_); refine gL 4 func112 #[.string a0] ?_; (with_reducible refine (dh.calls k a0 s _ y.out).mono ?_); rintro e w' ⟨rfl, ⟨nd, rfl⟩⟩; refine ⟨_, rfl, ?_⟩))
 go_ret
 exact ⟨Z3, Z12⟩
def ev.l0 : Nat -> List ByteArray -> ByteArray -> Int -> Option (Bool)
 | 0, _, _, _ => none
 | k + 1, x0, x1, x5 => if x5 < (x0.length : Int) then (if 0 <= x5 then (if (gb ByteArray.empty x0 x5).toList = x1.toList then (some true) else (ev.l0 k x0 x1 (wrap64 (x5 + 1)))) else (none)) else (some false)
def ev.f (k : Nat) (l0 : List ByteArray) (a1 : ByteArray) : Option (Bool) := ev.l0 k l0 a1 0
theorem ev.calls (k : Nat) (I : Option Addr) (c0 : Nat) (l0 : List ByteArray) (a1 : ByteArray) (r : Bool) (w : World) (hr0 : Kd.C Kd.string w I l0.length l0) (J : l0.length <= c0) (h : ev.f k l0 a1 = some r) :
  Calls prog 77 #[.slice I l0.length c0, .string a1] w fun e w' => e = .returned (.bool r) /\ ew w w' := by
 replace hr0 := aM hr0
 replace J := aM J
 have H := h
 clear h
 unfold ev.f at H
 have H' := aM H
 clear H
 go_enter func77, ntmps77
 go_wp2
 go_loopg [5] k (fun kq M w' => ∃ (x5_1 : Int), M = .int .i64 x5_1 /\ ap (ev.l0 kq l0 a1 x5_1 = some r) /\ ap (kq <= k) /\ ew w w')
 case atStart => exact ⟨(0), (Z3), H', ⟨bj _⟩, Z12⟩
 case round =>
  clear H'
  obtain ⟨x5_1, rfl, HA, HK1, ⟨m1, rfl⟩⟩ := hrel
  cases gk with
  | zero => exact absurd HA.out (by simp [ev.l0])
  | succ O =>
   have H := HA.out
   clear HA
   simp only [ev.l0] at H
   by_cases c3 : x5_1 < (l0.length : Int)
   ·rw [if_pos c3] at H
    have U := az c3
    clear c3
    obtain ⟨c4, H⟩ := ifS H
    have aB := az c4
    clear c4
    by_cases c5 : (gb ByteArray.empty l0 x5_1).toList = a1.toList
    ·rw [if_pos c5] at H
     have X := bf c5
     have Y := bc c5
     clear c5
     obtain rfl := oI H
     have s : 0 <= (x5_1 : Int) := dT (Z4)
     have y : x5_1 < (l0.length : Int) := dT (Z4)
     obtain ⟨Z, D, aA⟩ := Kd.at_string hr0.out x5_1 s y
     cases D
     replace s := bh s
     replace y := bh y
     go_wp2
     go_ret
     exact ⟨Z3, Z12⟩
    rw [if_neg c5] at H
    have X := bb c5
    have Y := bg c5
    have H' := aM H
    clear H
    have s : 0 <= (x5_1 : Int) := dT (Z4)
    have y : x5_1 < (l0.length : Int) := dT (Z4)
    obtain ⟨Z, D, aA⟩ := Kd.at_string hr0.out x5_1 s y
    cases D
    replace s := bh s
    replace y := bh y
    go_wp2
    go_roundg O
    case measure => have := HK1.out; omega
    case rel => exact ⟨(wrap64 (x5_1 + 1)), (Z3), H', ⟨Z85⟩, Z12⟩
   rw [if_neg c3] at H
   have U := ba c3
   clear c3
   obtain rfl := oI H
   go_wp2
   go_ret
   exact ⟨Z3, Z12⟩
mutual
def bw.j0 : Nat -> Bool -> ByteArray -> Int -> Int -> List (S113) -> List ByteArray -> Option (Bool)
 | 0, _, _, _, _, _, _ => none
 | k + 1, s, y, D, I, J, M => if s = true then (some false) else (bw.l0 k 0 y D I J M)
def bw.l0 : Nat -> Int -> ByteArray -> Int -> Int -> List (S113) -> List ByteArray -> Option (Bool)
 | 0, _, _, _, _, _, _ => none
 | k + 1, x3, D, I, y, s, J => if x3 < (s.length : Int) then (if 0 <= x3 then ((cf.f ((ar s x3).f0) 1 (wrap64 (y - 1))).bind fun M => (if M = true then (if x3 > 0 then (if 0 <= (wrap64 (x3 - 1)) then (if (wrap64 (x3 - 1)) < (s.length : Int) then (if ((ar s (wrap64 (x3 - 1))).f0) ≥ ((ar s x3).f0) then (some false) else ((cf.f ((ar s x3).f1) 0 31).bind fun O => (if O = true then (if (((ar s x3).f2).size : Int) > 4000 then (some false) else (bw.l0 k (wrap64 (x3 + 1)) D I y s J)) else (some false)))) else (none)) else (none)) else ((cf.f ((ar s x3).f1) 0 31).bind fun U => (if U = true then (if (((ar s x3).f2).size : Int) > 4000 then (some false) else (bw.l0 k (wrap64 (x3 + 1)) D I y s J)) else (some false)))) else (some false))) else (none)) else (bw.l1 k 0 D I y s J)
def bw.l1 : Nat -> Int -> ByteArray -> Int -> Int -> List (S113) -> List ByteArray -> Option (Bool)
 | 0, _, _, _, _, _, _ => none
 | k + 1, x5, y, D, I, J, s => if x5 < (s.length : Int) then (if 0 <= x5 then ((cf.f ((gb ByteArray.empty s x5).size : Int) 1 200).bind fun M => (if M = true then (if x5 <= (s.length : Int) then ((ev.f k (s.take (x5 : Int).toNat) (gb ByteArray.empty s x5)).bind fun O => (if O = true then (some false) else (bw.l1 k (wrap64 (x5 + 1)) y D I J s))) else (none)) else (some false))) else (none)) else (some true)
end
def bw.f (k : Nat) (D : ByteArray) (I : Int) (s : Int) (l0_3 : List (S113)) (y : List ByteArray) : Option (Bool) := (fq.f k D).bind fun J => (if J = true then ((cf.f I 1 1000000).bind fun M => (if M = true then ((cf.f s 1 1001).bind fun O => (if O = true then (if (l0_3.length : Int) > 30 then (bw.j0 k true D I s l0_3 y) else (if (y.length : Int) > 60 then (bw.j0 k true D I s l0_3 y) else (bw.j0 k ((y.length : Int) != (wrap64 (s - 1))) D I s l0_3 y))) else (bw.j0 k true D I s l0_3 y))) else (bw.j0 k true D I s l0_3 y))) else (bw.j0 k true D I s l0_3 y))
def bw.T7 : Bool × List (List Nat × List Nat) := (true, [([], []), ([0], [0]), ([], []), ([2], [2]), ([3], [3]), ([1, 4], [1, 4]), ([5], [5]), ([6, 5], [6]), ([7], [7]), ([8, 7], [7, 8]), ([9, 7, 7], [7, 9]), ([10], [10]), ([11, 10], [10, 11]), ([10], [10]), ([13, 10], [10, 13]), ([12, 14, 10], [10, 12, 14]), ([15, 10], [10, 15]), ([16, 10], [10, 16]), ([10], [10]), ([18, 10], [10, 18]), ([17, 19, 10], [10, 17, 19]), ([10, 20, 7], [7, 10, 20]), ([7, 21], [7, 21]), ([22, 10], [22]), ([23], [23]), ([24, 23], [23, 24]), ([25, 23, 23], [23, 25]), ([26, 23], [23, 26]), ([23, 27], [23, 27]), ([28, 26], [28]), ([29], [29]), ([30, 29], [29, 30]), ([31, 29], [29, 31]), ([32, 29], [29, 32]), ([29, 33], [29, 33])])
def bw.B7 : List Nat := [0, 1, 0, 4, 12, 31, 63, 127, 255, 511, 1023, 2047, 4095, 2047, 10239, 32767, 65535, 131071, 2047, 264191, 1048575, 2097151, 4194303, 8388607, 16777215, 33554431, 67108863, 134217727, 268435455, 536870911, 1073741823, 2147483647, 4294967295, 8589934591, 17179869183]
theorem bw.tab7 : rtab .any (opsOf Tryz.f109 7) = bw.T7 := by kernel_rfl
theorem bw.bits7 : waitsOk bw.T7.2 bw.B7 = true := by kernel_rfl
def bw.T12 : Bool × List (List Nat × List Nat) := (true, [([], []), ([0], [0]), ([], []), ([1, 2], [1, 2]), ([3], [3]), ([4], [4]), ([5], [5]), ([6], [6]), ([7, 6], [7]), ([8], [8]), ([9, 8], [8, 9]), ([8], [8]), ([10, 11, 8], [8, 10, 11]), ([8], [8]), ([13, 8], [8, 13]), ([8], [8]), ([14, 15, 8], [8, 14, 15]), ([16, 8], [8, 16]), ([12, 17, 8, 8], [8, 12, 17]), ([8, 18], [8, 18])])
def bw.B12 : List Nat := [0, 1, 0, 7, 15, 31, 63, 127, 255, 511, 1023, 511, 4095, 511, 8703, 511, 57855, 123391, 262143, 524287]
theorem bw.tab12 : rtab .any (opsOf Tryz.f109 12) = bw.T12 := by kernel_rfl
theorem bw.bits12 : waitsOk bw.T12.2 bw.B12 = true := by kernel_rfl
theorem bw.calls (k : Nat) (J : ByteArray) (O : Int) (I : Int) (aX : Option Addr) (aA : Nat) (l0_3 : List (S113)) (aE : Option Addr) (Z : Nat) (y : List ByteArray) (r : Bool) (w : World) (aP : Kd.C k113 w aX l0_3.length l0_3) (cL : l0_3.length <= aA) (aY : Kd.C Kd.string w aE y.length y) (bN : y.length <= Z) (h : bw.f k J O I l0_3 y = some r) :
  Calls prog 109 #[.agg #[.string J, .int .i64 O, .int .i64 I, .slice aX l0_3.length aA, .slice aE y.length Z]] w fun e w' => e = .returned (.bool r) /\ Below w.heap.size w w' := by
 have d4 := underlying82
 have d5 := underlying113
 replace aP := aM aP
 replace cL := aM cL
 replace aY := aM aY
 replace bN := aM bN
 have HB := aM (bi w.heap.size w)
 have H := h
 clear h
 unfold bw.f at H
 have b6 := aM H
 clear H
 go_enter func109, ntmps109
 go_upto_region 1 with (first | ((with_reducible refine gD 1 ?_); (try (refine dl (Z96) ?_; dsimp only)); refine bxF w 1 #[.string J, .int .i64 O, .int .i64 I, .slice aX l0_3.length aA, .slice aE y.length Z] 82 (Z0) ?_; intro aF hg w3 BK128 d6 GE128 HB hb; clear hb hg))
 (try simp only [Act.put, List.setIfInBounds_toArray, List.set_cons_zero, List.set_cons_succ])
 go_cut [42] (fun dD wc => ∃ (kq : Nat) (bO : Bool), dD = .bool bO /\ ap (bw.j0 kq bO J O I l0_3 y = some r) /\ ap (kq <= k) /\ ap (wc.heap[aF]? = some (.cells #[.string J, .int .i64 O, .int .i64 I, (.slice aX l0_3.length aA), (.slice aE y.length Z)] 82 (0, 0))) /\ ap (Below w.heap.size w wc))
 case first =>
  have H := b6.out
  clear b6
  obtain ⟨dE, A4, H⟩ := cz H
  try dsimp only at H
  by_cases c5 : dE = true
  ·subst c5
   replace H := ifT H
   obtain ⟨dF, A6, H⟩ := cz H
   try dsimp only at H
   by_cases c7 : dF = true
   ·subst c7
    replace H := ifT H
    obtain ⟨dG, A8, H⟩ := cz H
    try dsimp only at H
    by_cases c9 : dG = true
    ·subst c9
     replace H := ifT H
     by_cases c10 : (l0_3.length : Int) > 30
     ·rw [if_pos c10] at H
      have bJ : decide (30 < (l0_3.length : Int)) = true := az c10
      have b7 : decide (30 < l0_3.length) = true := az (Z31)
      clear c10
      (first | rw [bJ] | rw [b7] | (simp only [i64_w, i32_w]; rw [bJ]) | skip)
      have H' := aM H
      clear H
      refine bD5 BK128 ?_
      intros
      go_wp2_with (first | ((with_reducible refine gC 74 ?_); refine gL 8 func74 #[.string J] ?_; (with_reducible refine (fq.calls k J true _ A4.out).mono ?_); rintro e w' ⟨rfl, ⟨nd, rfl⟩⟩; refine ⟨_, rfl, ?_⟩) | (go_at_call 75; (with_reducible refine (cf.calls O 1 1000000 true _ A6.out).mono ?_); rintro e w' ⟨rfl, ⟨nd, rfl⟩⟩) | (go_at_call 75; (with_reducible refine (cf.calls I 1 1001 true _ A8.out).mono ?_); rintro e w' ⟨rfl, ⟨nd, rfl⟩⟩))
      go_meet
      case rel => exact ⟨_, (true), (Z3), H', ⟨Z82⟩, ⟨Z19⟩, ⟨Z8⟩⟩
     rw [if_neg c10] at H
     have bJ : decide (30 < (l0_3.length : Int)) = false := ba c10
     have b7 : decide (30 < l0_3.length) = false := ba (Z31)
     clear c10
     (first | rw [bJ] | rw [b7] | (simp only [i64_w, i32_w]; rw [bJ]) | skip)
     by_cases bC : (y.length : Int) > 60
     ·rw [if_pos bC] at H
      have dH : decide (60 < (y.length : Int)) = true := az bC
      have dI : decide (60 < y.length) = true := az (Z31)
      clear bC
      have H' := aM H
      clear H
      refine bD5 BK128 ?_
      intros
      go_wp2_with (first | ((with_reducible refine gC 74 ?_); refine gL 8 func74 #[.string J] ?_; (with_reducible refine (fq.calls k J true _ A4.out).mono ?_); rintro e w' ⟨rfl, ⟨nd, rfl⟩⟩; refine ⟨_, rfl, ?_⟩) | (go_at_call 75; (with_reducible refine (cf.calls O 1 1000000 true _ A6.out).mono ?_); rintro e w' ⟨rfl, ⟨nd, rfl⟩⟩) | (go_at_call 75; (with_reducible refine (cf.calls I 1 1001 true _ A8.out).mono ?_); rintro e w' ⟨rfl, ⟨nd, rfl⟩⟩))
      go_meet
      case rel => exact ⟨_, (true), (Z3), H', ⟨Z82⟩, ⟨Z19⟩, ⟨Z8⟩⟩
     rw [if_neg bC] at H
     have dH : decide (60 < (y.length : Int)) = false := ba bC
     have dI : decide (60 < y.length) = false := ba (Z31)
     clear bC
     have H' := aM H
     clear H
     refine bD5 BK128 ?_
     intros
     go_wp2_with (first | ((with_reducible refine gC 74 ?_); refine gL 8 func74 #[.string J] ?_; (with_reducible refine (fq.calls k J true _ A4.out).mono ?_); rintro e w' ⟨rfl, ⟨nd, rfl⟩⟩; refine ⟨_, rfl, ?_⟩) | (go_at_call 75; (with_reducible refine (cf.calls O 1 1000000 true _ A6.out).mono ?_); rintro e w' ⟨rfl, ⟨nd, rfl⟩⟩) | (go_at_call 75; (with_reducible refine (cf.calls I 1 1001 true _ A8.out).mono ?_); rintro e w' ⟨rfl, ⟨nd, rfl⟩⟩))
     go_meet
     case rel => exact ⟨_, (((y.length : Int) != (wrap64 (I - 1)))), (Z3), H', ⟨Z82⟩, ⟨Z19⟩, ⟨Z8⟩⟩
    replace c9 := be c9
    subst c9
    replace H := ifF H
    have H' := aM H
    clear H
    refine bD5 BK128 ?_
    intros
    go_wp2_with (first | ((with_reducible refine gC 74 ?_); refine gL 8 func74 #[.string J] ?_; (with_reducible refine (fq.calls k J true _ A4.out).mono ?_); rintro e w' ⟨rfl, ⟨nd, rfl⟩⟩; refine ⟨_, rfl, ?_⟩) | (go_at_call 75; (with_reducible refine (cf.calls O 1 1000000 true _ A6.out).mono ?_); rintro e w' ⟨rfl, ⟨nd, rfl⟩⟩) | (go_at_call 75; (with_reducible refine (cf.calls I 1 1001 false _ A8.out).mono ?_); rintro e w' ⟨rfl, ⟨nd, rfl⟩⟩))
    go_meet
    case rel => exact ⟨_, (true), (Z3), H', ⟨Z82⟩, ⟨Z19⟩, ⟨Z8⟩⟩
   replace c7 := be c7
   subst c7
   replace H := ifF H
   have H' := aM H
   clear H
   refine bD5 BK128 ?_
   intros
   go_wp2_with (first | ((with_reducible refine gC 74 ?_); refine gL 8 func74 #[.string J] ?_; (with_reducible refine (fq.calls k J true _ A4.out).mono ?_); rintro e w' ⟨rfl, ⟨nd, rfl⟩⟩; refine ⟨_, rfl, ?_⟩) | (go_at_call 75; (with_reducible refine (cf.calls O 1 1000000 false _ A6.out).mono ?_); rintro e w' ⟨rfl, ⟨nd, rfl⟩⟩))
   go_meet
   case rel => exact ⟨_, (true), (Z3), H', ⟨Z82⟩, ⟨Z19⟩, ⟨Z8⟩⟩
  replace c5 := be c5
  subst c5
  replace H := ifF H
  have H' := aM H
  clear H
  refine bD5 BK128 ?_
  intros
  go_wp2_with (first | ((with_reducible refine gC 74 ?_); refine gL 8 func74 #[.string J] ?_; (with_reducible refine (fq.calls k J false _ A4.out).mono ?_); rintro e w' ⟨rfl, ⟨nd, rfl⟩⟩; refine ⟨_, rfl, ?_⟩))
  go_meet
  case rel => exact ⟨_, (true), (Z3), H', ⟨Z82⟩, ⟨Z19⟩, ⟨Z8⟩⟩
 case rest =>
  clear b6
  obtain ⟨kq, bO, rfl, HA, HJ1, BK128, HB⟩ := hcut
  cases kq with
  | zero => exact absurd HA.out (by simp [bw.j0])
  | succ cM =>
   have H := HA.out
   clear HA
   simp only [bw.j0] at H
   by_cases bK : bO = true
   ·subst bK
    replace H := ifT H
    obtain rfl := oI H
    go_wp2
    go_ret
    exact ⟨Z1, Z8⟩
   replace bK := be bK
   subst bK
   replace H := ifF H
   have H' := aM H
   clear H
   go_wp2
   go_loopg [3] cM (fun kq v3 w' => ∃ (x3_2 : Int), v3 = .int .i64 x3_2 /\ ap (bw.l0 kq x3_2 J O I l0_3 y = some r) /\ ap (kq <= cM) /\ ap (w'.heap[aF]? = some (.cells #[.string J, .int .i64 O, .int .i64 I, (.slice aX l0_3.length aA), (.slice aE y.length Z)] 82 (0, 0))) /\ ap (Below w.heap.size w w'))
   case atStart => exact ⟨(0), (Z3), H', ⟨bj _⟩, ⟨Z19⟩, ⟨Z8⟩⟩
   case round =>
    clear H'
    (try clear bK)
    obtain ⟨x3_2, rfl, HA, HK2, BK128, HB⟩ := hrel
    cases gk with
    | zero => exact absurd HA.out (by simp [bw.l0])
    | succ k2 =>
     have H := HA.out
     clear HA
     simp only [bw.l0] at H
     by_cases a3 : x3_2 < (l0_3.length : Int)
     ·rw [if_pos a3] at H
      have cN := az a3
      clear a3
      obtain ⟨cO, H⟩ := ifS H
      have eA := az cO
      clear cO
      obtain ⟨dK, aZ, H⟩ := cz H
      try dsimp only at H
      by_cases bQ : dK = true
      ·subst bQ
       replace H := ifT H
       by_cases bD : x3_2 > 0
       ·rw [if_pos bD] at H
        have dL : decide (0 < x3_2) = true := az bD
        clear bD
        obtain ⟨M, hji24⟩ : ∃ j_ : Int, (wrap64 (x3_2 - 1)) = j_ := ⟨_, rfl⟩
        replace H : (if 0 <= (M) then (if (M) < (l0_3.length : Int) then (if ((ar l0_3 (M)).f0) ≥ ((ar l0_3 x3_2).f0) then (some false) else ((cf.f ((ar l0_3 x3_2).f1) 0 31).bind fun b8 => (if b8 = true then (if (((ar l0_3 x3_2).f2).size : Int) > 4000 then (some false) else (bw.l0 k2 (wrap64 (x3_2 + 1)) J O I l0_3 y)) else (some false)))) else (none)) else (none)) = some r := by first | (rw [hji24] at H; exact H) | (simp only [hji24] at H ⊢; exact H)
        (try rw [hji24] at aZ)
        have hji24w : (IntKind.i64.wrap (x3_2 - 1)) = M := (i64_w _).trans hji24
        obtain ⟨cP, H⟩ := ifS H
        have eB := az cP
        clear cP
        obtain ⟨cQ, H⟩ := ifS H
        have eC := az cQ
        clear cQ
        by_cases bE : ((ar l0_3 (M)).f0) ≥ ((ar l0_3 x3_2).f0)
        ·rw [if_pos bE] at H
         have dM : decide (((ar l0_3 x3_2).f0) <= ((ar l0_3 (M)).f0)) = true := az bE
         clear bE
         obtain rfl := oI H
         refine bD5 BK128 ?_
         intros
         have U : 0 <= (x3_2 : Int) := dT (Z4)
         have X : x3_2 < (l0_3.length : Int) := dT (Z4)
         obtain ⟨Y, aK, aB, aC, aD⟩ := ed aP.out x3_2 U X
         cases aK
         replace aB := cB HB.out aB
         replace aC := cB HB.out aC
         replace aD := cB HB.out aD
         replace U := bh U
         replace X := bh X
         try go_wp2_with (first | ((with_reducible refine gD 4 ?_); (try (refine dl (Z96) ?_; dsimp only)); refine bxF w 4 #[.int .i64 0, .int .i64 0, .string (⟨#[]⟩ : ByteArray)] 113 (Z8) ?_; intro s hg bR BK133 a5 GE133 HB hb; have NB128_133 := aM ((nL BK128 hg (Z19))); have aL := aM ((nG BK128 hg (Z19))); replace BK128 := aM (kB BK128 (Z19) hb); clear hb hg; have eD := aL.out; have eE := NB128_133.out; refine bD3 BK133 ?_; intros))
         have n0_ : ap ((((bR.setCell ⟨s, 0, none⟩ (.int .i64 ((ar l0_3 x3_2).f0))).setCell ⟨s, 1, none⟩ (.int .i64 ((ar l0_3 x3_2).f1))).setCell ⟨s, 2, none⟩ (.string ((ar l0_3 x3_2).f2))).heap[aF]? = some (.cells #[.string J, .int .i64 O, .int .i64 I, .slice (some Y) l0_3.length aA, .slice aE y.length Z] 82 (0, 0))) := ⟨Z18⟩
         have n1_ : ap ((((bR.setCell ⟨s, 0, none⟩ (.int .i64 ((ar l0_3 x3_2).f0))).setCell ⟨s, 1, none⟩ (.int .i64 ((ar l0_3 x3_2).f1))).setCell ⟨s, 2, none⟩ (.string ((ar l0_3 x3_2).f2))).heap[s]? = some (.cells #[.int .i64 ((ar l0_3 x3_2).f0), .int .i64 ((ar l0_3 x3_2).f1), .string ((ar l0_3 x3_2).f2)] 113 (0, 0))) := ⟨Z9⟩
         have n2_ : ap (Below w.heap.size w (((bR.setCell ⟨s, 0, none⟩ (.int .i64 ((ar l0_3 x3_2).f0))).setCell ⟨s, 1, none⟩ (.int .i64 ((ar l0_3 x3_2).f1))).setCell ⟨s, 2, none⟩ (.string ((ar l0_3 x3_2).f2)))) := ⟨Z26⟩
         (try clear BK128); (try clear BK133); (try clear HB)
         generalize (((bR.setCell ⟨s, 0, none⟩ (.int .i64 ((ar l0_3 x3_2).f0))).setCell ⟨s, 1, none⟩ (.int .i64 ((ar l0_3 x3_2).f1))).setCell ⟨s, 2, none⟩ (.string ((ar l0_3 x3_2).f2))) = dN at n0_ n1_ n2_ ⊢
         have BK128 := n0_
         have BK133 := n1_
         have HB := n2_
         clear n0_ n1_ n2_
         replace BK128 := aM (ag BK128.out)
         replace BK133 := aM (ag BK133.out)
         replace HB := aM (ac HB.out)
         have aN : 0 <= ((M) : Int) := dT (Z4)
         have aO : (M) < (l0_3.length : Int) := dT (Z4)
         obtain ⟨a6, a7, aG, aH, aI⟩ := ed aP.out (M) aN aO
         have aQ := aI
         have aR := aH
         have aS := aG
         obtain rfl : Y = a6 := (by injection a7)
         replace aG := cB HB.out aG
         replace aH := cB HB.out aH
         replace aI := cB HB.out aI
         replace aN := bh aN
         replace aO := bh aO
         refine fe (n := 35) (S := fun w' => Qc3 s (.int .i64 ((ar l0_3 x3_2).f0)) (.int .i64 ((ar l0_3 x3_2).f1)) (.string ((ar l0_3 x3_2).f2)) (Qc5 aF (.string J) (.int .i64 O) (.int .i64 I) (.slice (some Y) l0_3.length aA) (.slice aE y.length Z) (qa3 (Y.add (((M)).toNat * 3)) (.int .i64 ((ar l0_3 (M)).f0)) (.int .i64 ((ar l0_3 (M)).f1)) (.string ((ar l0_3 (M)).f2)) w') w') w') (ds := []) #[false, false, false, false, false, false, false, false, false, false, false, false, false, false, false, false, false, false, false, false, false, false, false, false, false, false, false, false, false, false, false, false, false, false, false] (Z16) rfl rfl (bk3 BK133.out (bk5 BK128.out (⟨(cB HB.out aS :), ⟨(cB HB.out aR :), (cB HB.out aQ :)⟩⟩))) (fun hHeld => ?_); refine df bw.tab7 bw.bits7 (fun HT_ HW_ => ?_)
         generalize dN.drew = eF at BK128 BK133 HB aG aH aI hHeld ⊢
         refine pA 0 55 ?_
         refine pA 2 57 ?_
         refine tA 1 56 ?_
         refine tA 3 58 ?_
         refine pA 4 59 ?_
         refine oA 5 60 (fun K hK => ?_)
         refine fl func75 (Z16) rfl #[.int .i64 ((ar l0_3 x3_2).f0), .int .i64 1, .int .i64 (wrap64 (I - 1))] (Z96) rfl rfl (Z2) ?_
         with_reducible refine (cf.calls ((ar l0_3 x3_2).f0) 1 (wrap64 (I - 1)) true _ aZ.out).mono ?_
         rintro e w' ⟨rfl, ⟨nd, rfl⟩⟩
         refine ⟨_, rfl, ?_⟩
         refine hK.out _ _ (bk3 BK133.out (bk5 BK128.out (⟨(cB HB.out aS :), ⟨(cB HB.out aR :), (cB HB.out aQ :)⟩⟩))) (fun hHeld => ?_)
         clear hK K
         refine nB 60 ?_
         refine pA 6 61 ?_
         refine pA 7 62 ?_
         refine pA 8 63 ?_
         refine pA 9 64 ?_
         refine pA 10 65 ?_
         refine pA 11 66 ?_
         refine pA 13 68 ?_
         refine pA 14 69 ?_
         refine pA 18 73 ?_
         refine tA 12 67 ?_
         refine pA 15 70 ?_
         refine pA 16 71 ?_
         refine tA 17 72 ?_
         refine tA 19 74 ?_
         refine pA 20 75 ?_
         refine pA 21 76 ?_
         refine pA 22 77 ?_
         refine pA 23 78 ?_
         refine pU 24 79 ?_
         refine pU 25 80 ?_
         refine pU 26 81 ?_
         refine pU 27 82 ?_
         refine pA 28 83 ?_
         refine pA 29 84 ?_
         refine pU 30 85 ?_
         refine pU 31 86 ?_
         refine pU 32 87 ?_
         refine pU 33 88 ?_
         refine pA 34 89 ?_
         refine gh (ei HT_.out (Z16)) ?_
         try go_wp2
         go_ret
         exact ⟨Z95, Z26⟩
        rw [if_neg bE] at H
        have dM : decide (((ar l0_3 x3_2).f0) <= ((ar l0_3 (M)).f0)) = false := ba bE
        clear bE
        obtain ⟨b8, b9, H⟩ := cz H
        try dsimp only at H
        by_cases bS : b8 = true
        ·subst bS
         replace H := ifT H
         by_cases bF : (((ar l0_3 x3_2).f2).size : Int) > 4000
         ·rw [if_pos bF] at H
          have dO : decide (4000 < (((ar l0_3 x3_2).f2).size : Int)) = true := az bF
          have dP : decide (4000 < ((ar l0_3 x3_2).f2).size) = true := az (Z31)
          clear bF
          obtain rfl := oI H
          refine bD5 BK128 ?_
          intros
          have U : 0 <= (x3_2 : Int) := dT (Z4)
          have X : x3_2 < (l0_3.length : Int) := dT (Z4)
          obtain ⟨Y, aK, aB, aC, aD⟩ := ed aP.out x3_2 U X
          cases aK
          replace aB := cB HB.out aB
          replace aC := cB HB.out aC
          replace aD := cB HB.out aD
          replace U := bh U
          replace X := bh X
          try go_wp2_with (first | ((with_reducible refine gD 4 ?_); (try (refine dl (Z96) ?_; dsimp only)); refine bxF w 4 #[.int .i64 0, .int .i64 0, .string (⟨#[]⟩ : ByteArray)] 113 (Z8) ?_; intro s hg bT BK133 a5 GE133 HB hb; have NB128_133 := aM ((nL BK128 hg (Z19))); have aL := aM ((nG BK128 hg (Z19))); replace BK128 := aM (kB BK128 (Z19) hb); clear hb hg; have eG := aL.out; have eH := NB128_133.out; refine bD3 BK133 ?_; intros))
          have n0_ : ap ((((bT.setCell ⟨s, 0, none⟩ (.int .i64 ((ar l0_3 x3_2).f0))).setCell ⟨s, 1, none⟩ (.int .i64 ((ar l0_3 x3_2).f1))).setCell ⟨s, 2, none⟩ (.string ((ar l0_3 x3_2).f2))).heap[aF]? = some (.cells #[.string J, .int .i64 O, .int .i64 I, .slice (some Y) l0_3.length aA, .slice aE y.length Z] 82 (0, 0))) := ⟨Z18⟩
          have n1_ : ap ((((bT.setCell ⟨s, 0, none⟩ (.int .i64 ((ar l0_3 x3_2).f0))).setCell ⟨s, 1, none⟩ (.int .i64 ((ar l0_3 x3_2).f1))).setCell ⟨s, 2, none⟩ (.string ((ar l0_3 x3_2).f2))).heap[s]? = some (.cells #[.int .i64 ((ar l0_3 x3_2).f0), .int .i64 ((ar l0_3 x3_2).f1), .string ((ar l0_3 x3_2).f2)] 113 (0, 0))) := ⟨Z9⟩
          have n2_ : ap (Below w.heap.size w (((bT.setCell ⟨s, 0, none⟩ (.int .i64 ((ar l0_3 x3_2).f0))).setCell ⟨s, 1, none⟩ (.int .i64 ((ar l0_3 x3_2).f1))).setCell ⟨s, 2, none⟩ (.string ((ar l0_3 x3_2).f2)))) := ⟨Z26⟩
          (try clear BK128); (try clear BK133); (try clear HB)
          generalize (((bT.setCell ⟨s, 0, none⟩ (.int .i64 ((ar l0_3 x3_2).f0))).setCell ⟨s, 1, none⟩ (.int .i64 ((ar l0_3 x3_2).f1))).setCell ⟨s, 2, none⟩ (.string ((ar l0_3 x3_2).f2))) = dQ at n0_ n1_ n2_ ⊢
          have BK128 := n0_
          have BK133 := n1_
          have HB := n2_
          clear n0_ n1_ n2_
          replace BK128 := aM (ag BK128.out)
          replace BK133 := aM (ag BK133.out)
          replace HB := aM (ac HB.out)
          have aN : 0 <= ((M) : Int) := dT (Z4)
          have aO : (M) < (l0_3.length : Int) := dT (Z4)
          obtain ⟨a6, a7, aG, aH, aI⟩ := ed aP.out (M) aN aO
          have aQ := aI
          have aR := aH
          have aS := aG
          obtain rfl : Y = a6 := (by injection a7)
          replace aG := cB HB.out aG
          replace aH := cB HB.out aH
          replace aI := cB HB.out aI
          replace aN := bh aN
          replace aO := bh aO
          refine fe (n := 35) (S := fun w' => Qc3 s (.int .i64 ((ar l0_3 x3_2).f0)) (.int .i64 ((ar l0_3 x3_2).f1)) (.string ((ar l0_3 x3_2).f2)) (Qc5 aF (.string J) (.int .i64 O) (.int .i64 I) (.slice (some Y) l0_3.length aA) (.slice aE y.length Z) (qa3 (Y.add (((M)).toNat * 3)) (.int .i64 ((ar l0_3 (M)).f0)) (.int .i64 ((ar l0_3 (M)).f1)) (.string ((ar l0_3 (M)).f2)) w') w') w') (ds := []) #[false, false, false, false, false, false, false, false, false, false, false, false, false, false, false, false, false, false, false, false, false, false, false, false, false, false, false, false, false, false, false, false, false, false, false] (Z16) rfl rfl (bk3 BK133.out (bk5 BK128.out (⟨(cB HB.out aS :), ⟨(cB HB.out aR :), (cB HB.out aQ :)⟩⟩))) (fun hHeld => ?_); refine df bw.tab7 bw.bits7 (fun HT_ HW_ => ?_)
          generalize dQ.drew = eI at BK128 BK133 HB aG aH aI hHeld ⊢
          refine pA 0 55 ?_
          refine pA 2 57 ?_
          refine tA 1 56 ?_
          refine tA 3 58 ?_
          refine pA 4 59 ?_
          refine oA 5 60 (fun K hK => ?_)
          refine fl func75 (Z16) rfl #[.int .i64 ((ar l0_3 x3_2).f0), .int .i64 1, .int .i64 (wrap64 (I - 1))] (Z96) rfl rfl (Z2) ?_
          with_reducible refine (cf.calls ((ar l0_3 x3_2).f0) 1 (wrap64 (I - 1)) true _ aZ.out).mono ?_
          rintro e w' ⟨rfl, ⟨nd, rfl⟩⟩
          refine ⟨_, rfl, ?_⟩
          refine hK.out _ _ (bk3 BK133.out (bk5 BK128.out (⟨(cB HB.out aS :), ⟨(cB HB.out aR :), (cB HB.out aQ :)⟩⟩))) (fun hHeld => ?_)
          clear hK K
          refine nB 60 ?_
          refine pA 6 61 ?_
          refine pA 7 62 ?_
          refine pA 8 63 ?_
          refine pA 9 64 ?_
          refine pA 10 65 ?_
          refine pA 11 66 ?_
          refine pA 13 68 ?_
          refine pA 14 69 ?_
          refine pA 18 73 ?_
          refine tA 12 67 ?_
          refine pA 15 70 ?_
          refine pA 16 71 ?_
          refine tA 17 72 ?_
          refine tA 19 74 ?_
          refine pA 20 75 ?_
          refine pA 21 76 ?_
          refine pA 22 77 ?_
          refine pA 23 78 ?_
          refine pA 24 79 ?_
          refine tA 25 80 ?_
          refine oA 26 81 (fun K hK => ?_)
          refine fl func75 (Z16) rfl #[.int .i64 ((ar l0_3 x3_2).f1), .int .i64 0, .int .i64 31] (Z96) rfl rfl (Z2) ?_
          with_reducible refine (cf.calls ((ar l0_3 x3_2).f1) 0 31 true _ b9.out).mono ?_
          rintro e w' ⟨rfl, ⟨nd, rfl⟩⟩
          refine ⟨_, rfl, ?_⟩
          refine hK.out _ _ (bk3 BK133.out (bk5 BK128.out (⟨(cB HB.out aS :), ⟨(cB HB.out aR :), (cB HB.out aQ :)⟩⟩))) (fun hHeld => ?_)
          clear hK K
          refine nB 81 ?_
          refine pA 27 82 ?_
          refine pA 28 83 ?_
          refine pA 29 84 ?_
          refine pA 30 85 ?_
          refine tA 31 86 ?_
          refine pA 32 87 ?_
          refine pA 33 88 ?_
          refine pA 34 89 ?_
          refine gh (ei HT_.out (Z16)) ?_
          try go_wp2
          go_ret
          exact ⟨Z95, Z26⟩
         rw [if_neg bF] at H
         have dO : decide (4000 < (((ar l0_3 x3_2).f2).size : Int)) = false := ba bF
         have dP : decide (4000 < ((ar l0_3 x3_2).f2).size) = false := ba (Z31)
         clear bF
         have H' := aM H
         clear H
         refine bD5 BK128 ?_
         intros
         have U : 0 <= (x3_2 : Int) := dT (Z4)
         have X : x3_2 < (l0_3.length : Int) := dT (Z4)
         obtain ⟨Y, aK, aB, aC, aD⟩ := ed aP.out x3_2 U X
         cases aK
         replace aB := cB HB.out aB
         replace aC := cB HB.out aC
         replace aD := cB HB.out aD
         replace U := bh U
         replace X := bh X
         try go_wp2_with (first | ((with_reducible refine gD 4 ?_); (try (refine dl (Z96) ?_; dsimp only)); refine bxF w 4 #[.int .i64 0, .int .i64 0, .string (⟨#[]⟩ : ByteArray)] 113 (Z8) ?_; intro s hg bU BK133 a5 GE133 HB hb; have NB128_133 := aM ((nL BK128 hg (Z19))); have aL := aM ((nG BK128 hg (Z19))); replace BK128 := aM (kB BK128 (Z19) hb); clear hb hg; have eJ := aL.out; have eK := NB128_133.out; refine bD3 BK133 ?_; intros))
         have n0_ : ap ((((bU.setCell ⟨s, 0, none⟩ (.int .i64 ((ar l0_3 x3_2).f0))).setCell ⟨s, 1, none⟩ (.int .i64 ((ar l0_3 x3_2).f1))).setCell ⟨s, 2, none⟩ (.string ((ar l0_3 x3_2).f2))).heap[aF]? = some (.cells #[.string J, .int .i64 O, .int .i64 I, .slice (some Y) l0_3.length aA, .slice aE y.length Z] 82 (0, 0))) := ⟨Z18⟩
         have n1_ : ap ((((bU.setCell ⟨s, 0, none⟩ (.int .i64 ((ar l0_3 x3_2).f0))).setCell ⟨s, 1, none⟩ (.int .i64 ((ar l0_3 x3_2).f1))).setCell ⟨s, 2, none⟩ (.string ((ar l0_3 x3_2).f2))).heap[s]? = some (.cells #[.int .i64 ((ar l0_3 x3_2).f0), .int .i64 ((ar l0_3 x3_2).f1), .string ((ar l0_3 x3_2).f2)] 113 (0, 0))) := ⟨Z9⟩
         have n2_ : ap (Below w.heap.size w (((bU.setCell ⟨s, 0, none⟩ (.int .i64 ((ar l0_3 x3_2).f0))).setCell ⟨s, 1, none⟩ (.int .i64 ((ar l0_3 x3_2).f1))).setCell ⟨s, 2, none⟩ (.string ((ar l0_3 x3_2).f2)))) := ⟨Z26⟩
         (try clear BK128); (try clear BK133); (try clear HB)
         generalize (((bU.setCell ⟨s, 0, none⟩ (.int .i64 ((ar l0_3 x3_2).f0))).setCell ⟨s, 1, none⟩ (.int .i64 ((ar l0_3 x3_2).f1))).setCell ⟨s, 2, none⟩ (.string ((ar l0_3 x3_2).f2))) = dR at n0_ n1_ n2_ ⊢
         have BK128 := n0_
         have BK133 := n1_
         have HB := n2_
         clear n0_ n1_ n2_
         replace BK128 := aM (ag BK128.out)
         replace BK133 := aM (ag BK133.out)
         replace HB := aM (ac HB.out)
         have aN : 0 <= ((M) : Int) := dT (Z4)
         have aO : (M) < (l0_3.length : Int) := dT (Z4)
         obtain ⟨a6, a7, aG, aH, aI⟩ := ed aP.out (M) aN aO
         have aQ := aI
         have aR := aH
         have aS := aG
         obtain rfl : Y = a6 := (by injection a7)
         replace aG := cB HB.out aG
         replace aH := cB HB.out aH
         replace aI := cB HB.out aI
         replace aN := bh aN
         replace aO := bh aO
         refine fe (n := 35) (S := fun w' => Qc3 s (.int .i64 ((ar l0_3 x3_2).f0)) (.int .i64 ((ar l0_3 x3_2).f1)) (.string ((ar l0_3 x3_2).f2)) (Qc5 aF (.string J) (.int .i64 O) (.int .i64 I) (.slice (some Y) l0_3.length aA) (.slice aE y.length Z) (qa3 (Y.add (((M)).toNat * 3)) (.int .i64 ((ar l0_3 (M)).f0)) (.int .i64 ((ar l0_3 (M)).f1)) (.string ((ar l0_3 (M)).f2)) w') w') w') (ds := []) #[false, false, false, false, false, false, false, false, false, false, false, false, false, false, false, false, false, false, false, false, false, false, false, false, false, false, false, false, false, false, false, false, false, false, false] (Z16) rfl rfl (bk3 BK133.out (bk5 BK128.out (⟨(cB HB.out aS :), ⟨(cB HB.out aR :), (cB HB.out aQ :)⟩⟩))) (fun hHeld => ?_); refine df bw.tab7 bw.bits7 (fun HT_ HW_ => ?_)
         generalize dR.drew = eL at BK128 BK133 HB aG aH aI hHeld ⊢
         refine pA 0 55 ?_
         refine pA 2 57 ?_
         refine tA 1 56 ?_
         refine tA 3 58 ?_
         refine pA 4 59 ?_
         refine oA 5 60 (fun K hK => ?_)
         refine fl func75 (Z16) rfl #[.int .i64 ((ar l0_3 x3_2).f0), .int .i64 1, .int .i64 (wrap64 (I - 1))] (Z96) rfl rfl (Z2) ?_
         with_reducible refine (cf.calls ((ar l0_3 x3_2).f0) 1 (wrap64 (I - 1)) true _ aZ.out).mono ?_
         rintro e w' ⟨rfl, ⟨nd, rfl⟩⟩
         refine ⟨_, rfl, ?_⟩
         refine hK.out _ _ (bk3 BK133.out (bk5 BK128.out (⟨(cB HB.out aS :), ⟨(cB HB.out aR :), (cB HB.out aQ :)⟩⟩))) (fun hHeld => ?_)
         clear hK K
         refine nB 60 ?_
         refine pA 6 61 ?_
         refine pA 7 62 ?_
         refine pA 8 63 ?_
         refine pA 9 64 ?_
         refine pA 10 65 ?_
         refine pA 11 66 ?_
         refine pA 13 68 ?_
         refine pA 14 69 ?_
         refine pA 18 73 ?_
         refine tA 12 67 ?_
         refine pA 15 70 ?_
         refine pA 16 71 ?_
         refine tA 17 72 ?_
         refine tA 19 74 ?_
         refine pA 20 75 ?_
         refine pA 21 76 ?_
         refine pA 22 77 ?_
         refine pA 23 78 ?_
         refine pA 24 79 ?_
         refine tA 25 80 ?_
         refine oA 26 81 (fun K hK => ?_)
         refine fl func75 (Z16) rfl #[.int .i64 ((ar l0_3 x3_2).f1), .int .i64 0, .int .i64 31] (Z96) rfl rfl (Z2) ?_
         with_reducible refine (cf.calls ((ar l0_3 x3_2).f1) 0 31 true _ b9.out).mono ?_
         rintro e w' ⟨rfl, ⟨nd, rfl⟩⟩
         refine ⟨_, rfl, ?_⟩
         refine hK.out _ _ (bk3 BK133.out (bk5 BK128.out (⟨(cB HB.out aS :), ⟨(cB HB.out aR :), (cB HB.out aQ :)⟩⟩))) (fun hHeld => ?_)
         clear hK K
         refine nB 81 ?_
         refine pA 27 82 ?_
         refine pA 28 83 ?_
         refine pA 29 84 ?_
         refine pA 30 85 ?_
         refine tA 31 86 ?_
         refine pA 32 87 ?_
         refine pA 33 88 ?_
         refine pA 34 89 ?_
         refine gh (ei HT_.out (Z16)) ?_
         try go_wp2
         go_roundg k2
         case measure => have := HJ1.out; have := HK2.out; omega
         case rel => exact ⟨(wrap64 (x3_2 + 1)), (Z3), H', ⟨Z172⟩, ⟨Z19⟩, ⟨Z26⟩⟩
        replace bS := be bS
        subst bS
        replace H := ifF H
        obtain rfl := oI H
        refine bD5 BK128 ?_
        intros
        have U : 0 <= (x3_2 : Int) := dT (Z4)
        have X : x3_2 < (l0_3.length : Int) := dT (Z4)
        obtain ⟨Y, aK, aB, aC, aD⟩ := ed aP.out x3_2 U X
        cases aK
        replace aB := cB HB.out aB
        replace aC := cB HB.out aC
        replace aD := cB HB.out aD
        replace U := bh U
        replace X := bh X
        try go_wp2_with (first | ((with_reducible refine gD 4 ?_); (try (refine dl (Z96) ?_; dsimp only)); refine bxF w 4 #[.int .i64 0, .int .i64 0, .string (⟨#[]⟩ : ByteArray)] 113 (Z8) ?_; intro s hg bV BK133 a5 GE133 HB hb; have NB128_133 := aM ((nL BK128 hg (Z19))); have aL := aM ((nG BK128 hg (Z19))); replace BK128 := aM (kB BK128 (Z19) hb); clear hb hg; have eM := aL.out; have eN := NB128_133.out; refine bD3 BK133 ?_; intros))
        have n0_ : ap ((((bV.setCell ⟨s, 0, none⟩ (.int .i64 ((ar l0_3 x3_2).f0))).setCell ⟨s, 1, none⟩ (.int .i64 ((ar l0_3 x3_2).f1))).setCell ⟨s, 2, none⟩ (.string ((ar l0_3 x3_2).f2))).heap[aF]? = some (.cells #[.string J, .int .i64 O, .int .i64 I, .slice (some Y) l0_3.length aA, .slice aE y.length Z] 82 (0, 0))) := ⟨Z18⟩
        have n1_ : ap ((((bV.setCell ⟨s, 0, none⟩ (.int .i64 ((ar l0_3 x3_2).f0))).setCell ⟨s, 1, none⟩ (.int .i64 ((ar l0_3 x3_2).f1))).setCell ⟨s, 2, none⟩ (.string ((ar l0_3 x3_2).f2))).heap[s]? = some (.cells #[.int .i64 ((ar l0_3 x3_2).f0), .int .i64 ((ar l0_3 x3_2).f1), .string ((ar l0_3 x3_2).f2)] 113 (0, 0))) := ⟨Z9⟩
        have n2_ : ap (Below w.heap.size w (((bV.setCell ⟨s, 0, none⟩ (.int .i64 ((ar l0_3 x3_2).f0))).setCell ⟨s, 1, none⟩ (.int .i64 ((ar l0_3 x3_2).f1))).setCell ⟨s, 2, none⟩ (.string ((ar l0_3 x3_2).f2)))) := ⟨Z26⟩
        (try clear BK128); (try clear BK133); (try clear HB)
        generalize (((bV.setCell ⟨s, 0, none⟩ (.int .i64 ((ar l0_3 x3_2).f0))).setCell ⟨s, 1, none⟩ (.int .i64 ((ar l0_3 x3_2).f1))).setCell ⟨s, 2, none⟩ (.string ((ar l0_3 x3_2).f2))) = dS at n0_ n1_ n2_ ⊢
        have BK128 := n0_
        have BK133 := n1_
        have HB := n2_
        clear n0_ n1_ n2_
        replace BK128 := aM (ag BK128.out)
        replace BK133 := aM (ag BK133.out)
        replace HB := aM (ac HB.out)
        have aN : 0 <= ((M) : Int) := dT (Z4)
        have aO : (M) < (l0_3.length : Int) := dT (Z4)
        obtain ⟨a6, a7, aG, aH, aI⟩ := ed aP.out (M) aN aO
        have aQ := aI
        have aR := aH
        have aS := aG
        obtain rfl : Y = a6 := (by injection a7)
        replace aG := cB HB.out aG
        replace aH := cB HB.out aH
        replace aI := cB HB.out aI
        replace aN := bh aN
        replace aO := bh aO
        refine fe (n := 35) (S := fun w' => Qc3 s (.int .i64 ((ar l0_3 x3_2).f0)) (.int .i64 ((ar l0_3 x3_2).f1)) (.string ((ar l0_3 x3_2).f2)) (Qc5 aF (.string J) (.int .i64 O) (.int .i64 I) (.slice (some Y) l0_3.length aA) (.slice aE y.length Z) (qa3 (Y.add (((M)).toNat * 3)) (.int .i64 ((ar l0_3 (M)).f0)) (.int .i64 ((ar l0_3 (M)).f1)) (.string ((ar l0_3 (M)).f2)) w') w') w') (ds := []) #[false, false, false, false, false, false, false, false, false, false, false, false, false, false, false, false, false, false, false, false, false, false, false, false, false, false, false, false, false, false, false, false, false, false, false] (Z16) rfl rfl (bk3 BK133.out (bk5 BK128.out (⟨(cB HB.out aS :), ⟨(cB HB.out aR :), (cB HB.out aQ :)⟩⟩))) (fun hHeld => ?_); refine df bw.tab7 bw.bits7 (fun HT_ HW_ => ?_)
        generalize dS.drew = eO at BK128 BK133 HB aG aH aI hHeld ⊢
        refine pA 0 55 ?_
        refine pA 2 57 ?_
        refine tA 1 56 ?_
        refine tA 3 58 ?_
        refine pA 4 59 ?_
        refine oA 5 60 (fun K hK => ?_)
        refine fl func75 (Z16) rfl #[.int .i64 ((ar l0_3 x3_2).f0), .int .i64 1, .int .i64 (wrap64 (I - 1))] (Z96) rfl rfl (Z2) ?_
        with_reducible refine (cf.calls ((ar l0_3 x3_2).f0) 1 (wrap64 (I - 1)) true _ aZ.out).mono ?_
        rintro e w' ⟨rfl, ⟨nd, rfl⟩⟩
        refine ⟨_, rfl, ?_⟩
        refine hK.out _ _ (bk3 BK133.out (bk5 BK128.out (⟨(cB HB.out aS :), ⟨(cB HB.out aR :), (cB HB.out aQ :)⟩⟩))) (fun hHeld => ?_)
        clear hK K
        refine nB 60 ?_
        refine pA 6 61 ?_
        refine pA 7 62 ?_
        refine pA 8 63 ?_
        refine pA 9 64 ?_
        refine pA 10 65 ?_
        refine pA 11 66 ?_
        refine pA 13 68 ?_
        refine pA 14 69 ?_
        refine pA 18 73 ?_
        refine tA 12 67 ?_
        refine pA 15 70 ?_
        refine pA 16 71 ?_
        refine tA 17 72 ?_
        refine tA 19 74 ?_
        refine pA 20 75 ?_
        refine pA 21 76 ?_
        refine pA 22 77 ?_
        refine pA 23 78 ?_
        refine pA 24 79 ?_
        refine tA 25 80 ?_
        refine oA 26 81 (fun K hK => ?_)
        refine fl func75 (Z16) rfl #[.int .i64 ((ar l0_3 x3_2).f1), .int .i64 0, .int .i64 31] (Z96) rfl rfl (Z2) ?_
        with_reducible refine (cf.calls ((ar l0_3 x3_2).f1) 0 31 false _ b9.out).mono ?_
        rintro e w' ⟨rfl, ⟨nd, rfl⟩⟩
        refine ⟨_, rfl, ?_⟩
        refine hK.out _ _ (bk3 BK133.out (bk5 BK128.out (⟨(cB HB.out aS :), ⟨(cB HB.out aR :), (cB HB.out aQ :)⟩⟩))) (fun hHeld => ?_)
        clear hK K
        refine nB 81 ?_
        refine pA 27 82 ?_
        refine pA 28 83 ?_
        refine pA 29 84 ?_
        refine pU 30 85 ?_
        refine pU 31 86 ?_
        refine pU 32 87 ?_
        refine pU 33 88 ?_
        refine pA 34 89 ?_
        refine gh (ei HT_.out (Z16)) ?_
        try go_wp2
        go_ret
        exact ⟨Z95, Z26⟩
       rw [if_neg bD] at H
       have dL : decide (0 < x3_2) = false := ba bD
       clear bD
       obtain ⟨dT, cA, H⟩ := cz H
       try dsimp only at H
       by_cases bW : dT = true
       ·subst bW
        replace H := ifT H
        by_cases bG : (((ar l0_3 x3_2).f2).size : Int) > 4000
        ·rw [if_pos bG] at H
         have dU : decide (4000 < (((ar l0_3 x3_2).f2).size : Int)) = true := az bG
         have dV : decide (4000 < ((ar l0_3 x3_2).f2).size) = true := az (Z31)
         clear bG
         obtain rfl := oI H
         refine bD5 BK128 ?_
         intros
         have U : 0 <= (x3_2 : Int) := dT (Z4)
         have X : x3_2 < (l0_3.length : Int) := dT (Z4)
         obtain ⟨Y, aK, aB, aC, aD⟩ := ed aP.out x3_2 U X
         cases aK
         replace aB := cB HB.out aB
         replace aC := cB HB.out aC
         replace aD := cB HB.out aD
         replace U := bh U
         replace X := bh X
         try go_wp2_with (first | ((with_reducible refine gD 4 ?_); (try (refine dl (Z96) ?_; dsimp only)); refine bxF w 4 #[.int .i64 0, .int .i64 0, .string (⟨#[]⟩ : ByteArray)] 113 (Z8) ?_; intro s hg bX BK133 a5 GE133 HB hb; have NB128_133 := aM ((nL BK128 hg (Z19))); have aL := aM ((nG BK128 hg (Z19))); replace BK128 := aM (kB BK128 (Z19) hb); clear hb hg; have eP := aL.out; have eQ := NB128_133.out; refine bD3 BK133 ?_; intros))
         have n0_ : ap ((((bX.setCell ⟨s, 0, none⟩ (.int .i64 ((ar l0_3 x3_2).f0))).setCell ⟨s, 1, none⟩ (.int .i64 ((ar l0_3 x3_2).f1))).setCell ⟨s, 2, none⟩ (.string ((ar l0_3 x3_2).f2))).heap[aF]? = some (.cells #[.string J, .int .i64 O, .int .i64 I, .slice (some Y) l0_3.length aA, .slice aE y.length Z] 82 (0, 0))) := ⟨Z18⟩
         have n1_ : ap ((((bX.setCell ⟨s, 0, none⟩ (.int .i64 ((ar l0_3 x3_2).f0))).setCell ⟨s, 1, none⟩ (.int .i64 ((ar l0_3 x3_2).f1))).setCell ⟨s, 2, none⟩ (.string ((ar l0_3 x3_2).f2))).heap[s]? = some (.cells #[.int .i64 ((ar l0_3 x3_2).f0), .int .i64 ((ar l0_3 x3_2).f1), .string ((ar l0_3 x3_2).f2)] 113 (0, 0))) := ⟨Z9⟩
         have n2_ : ap (Below w.heap.size w (((bX.setCell ⟨s, 0, none⟩ (.int .i64 ((ar l0_3 x3_2).f0))).setCell ⟨s, 1, none⟩ (.int .i64 ((ar l0_3 x3_2).f1))).setCell ⟨s, 2, none⟩ (.string ((ar l0_3 x3_2).f2)))) := ⟨Z26⟩
         (try clear BK128); (try clear BK133); (try clear HB)
         generalize (((bX.setCell ⟨s, 0, none⟩ (.int .i64 ((ar l0_3 x3_2).f0))).setCell ⟨s, 1, none⟩ (.int .i64 ((ar l0_3 x3_2).f1))).setCell ⟨s, 2, none⟩ (.string ((ar l0_3 x3_2).f2))) = dW at n0_ n1_ n2_ ⊢
         have BK128 := n0_
         have BK133 := n1_
         have HB := n2_
         clear n0_ n1_ n2_
         replace BK128 := aM (ag BK128.out)
         replace BK133 := aM (ag BK133.out)
         replace HB := aM (ac HB.out)
         refine fe (n := 35) (S := fun w' => Qc3 s (.int .i64 ((ar l0_3 x3_2).f0)) (.int .i64 ((ar l0_3 x3_2).f1)) (.string ((ar l0_3 x3_2).f2)) (qc5 aF (.string J) (.int .i64 O) (.int .i64 I) (.slice (some Y) l0_3.length aA) (.slice aE y.length Z) w') w') (ds := []) #[false, false, false, false, false, false, false, false, false, false, false, false, false, false, false, false, false, false, false, false, false, false, false, false, false, false, false, false, false, false, false, false, false, false, false] (Z16) rfl rfl (bk3 BK133.out (bc5 BK128.out)) (fun hHeld => ?_); refine df bw.tab7 bw.bits7 (fun HT_ HW_ => ?_)
         generalize dW.drew = eR at BK128 BK133 HB hHeld ⊢
         refine pA 0 55 ?_
         refine pA 2 57 ?_
         refine tA 1 56 ?_
         refine tA 3 58 ?_
         refine pA 4 59 ?_
         refine oA 5 60 (fun K hK => ?_)
         refine fl func75 (Z16) rfl #[.int .i64 ((ar l0_3 x3_2).f0), .int .i64 1, .int .i64 (wrap64 (I - 1))] (Z96) rfl rfl (Z2) ?_
         with_reducible refine (cf.calls ((ar l0_3 x3_2).f0) 1 (wrap64 (I - 1)) true _ aZ.out).mono ?_
         rintro e w' ⟨rfl, ⟨nd, rfl⟩⟩
         refine ⟨_, rfl, ?_⟩
         refine hK.out _ _ (bk3 BK133.out (bc5 BK128.out)) (fun hHeld => ?_)
         clear hK K
         refine nB 60 ?_
         refine pA 6 61 ?_
         refine pA 7 62 ?_
         refine pA 8 63 ?_
         refine pA 9 64 ?_
         refine pA 10 65 ?_
         refine pU 11 66 ?_
         refine pU 12 67 ?_
         refine pU 13 68 ?_
         refine pU 14 69 ?_
         refine pU 15 70 ?_
         refine pU 16 71 ?_
         refine pU 17 72 ?_
         refine pU 18 73 ?_
         refine pU 19 74 ?_
         refine pU 20 75 ?_
         refine pA 21 76 ?_
         refine pA 22 77 ?_
         refine pA 23 78 ?_
         refine pA 24 79 ?_
         refine tA 25 80 ?_
         refine oA 26 81 (fun K hK => ?_)
         refine fl func75 (Z16) rfl #[.int .i64 ((ar l0_3 x3_2).f1), .int .i64 0, .int .i64 31] (Z96) rfl rfl (Z2) ?_
         with_reducible refine (cf.calls ((ar l0_3 x3_2).f1) 0 31 true _ cA.out).mono ?_
         rintro e w' ⟨rfl, ⟨nd, rfl⟩⟩
         refine ⟨_, rfl, ?_⟩
         refine hK.out _ _ (bk3 BK133.out (bc5 BK128.out)) (fun hHeld => ?_)
         clear hK K
         refine nB 81 ?_
         refine pA 27 82 ?_
         refine pA 28 83 ?_
         refine pA 29 84 ?_
         refine pA 30 85 ?_
         refine tA 31 86 ?_
         refine pA 32 87 ?_
         refine pA 33 88 ?_
         refine pA 34 89 ?_
         refine gh (ei HT_.out (Z16)) ?_
         try go_wp2
         go_ret
         exact ⟨Z1, Z26⟩
        rw [if_neg bG] at H
        have dU : decide (4000 < (((ar l0_3 x3_2).f2).size : Int)) = false := ba bG
        have dV : decide (4000 < ((ar l0_3 x3_2).f2).size) = false := ba (Z31)
        clear bG
        have H' := aM H
        clear H
        refine bD5 BK128 ?_
        intros
        have U : 0 <= (x3_2 : Int) := dT (Z4)
        have X : x3_2 < (l0_3.length : Int) := dT (Z4)
        obtain ⟨Y, aK, aB, aC, aD⟩ := ed aP.out x3_2 U X
        cases aK
        replace aB := cB HB.out aB
        replace aC := cB HB.out aC
        replace aD := cB HB.out aD
        replace U := bh U
        replace X := bh X
        try go_wp2_with (first | ((with_reducible refine gD 4 ?_); (try (refine dl (Z96) ?_; dsimp only)); refine bxF w 4 #[.int .i64 0, .int .i64 0, .string (⟨#[]⟩ : ByteArray)] 113 (Z8) ?_; intro s hg bY BK133 a5 GE133 HB hb; have NB128_133 := aM ((nL BK128 hg (Z19))); have aL := aM ((nG BK128 hg (Z19))); replace BK128 := aM (kB BK128 (Z19) hb); clear hb hg; have eS := aL.out; have eT := NB128_133.out; refine bD3 BK133 ?_; intros))
        have n0_ : ap ((((bY.setCell ⟨s, 0, none⟩ (.int .i64 ((ar l0_3 x3_2).f0))).setCell ⟨s, 1, none⟩ (.int .i64 ((ar l0_3 x3_2).f1))).setCell ⟨s, 2, none⟩ (.string ((ar l0_3 x3_2).f2))).heap[aF]? = some (.cells #[.string J, .int .i64 O, .int .i64 I, .slice (some Y) l0_3.length aA, .slice aE y.length Z] 82 (0, 0))) := ⟨Z18⟩
        have n1_ : ap ((((bY.setCell ⟨s, 0, none⟩ (.int .i64 ((ar l0_3 x3_2).f0))).setCell ⟨s, 1, none⟩ (.int .i64 ((ar l0_3 x3_2).f1))).setCell ⟨s, 2, none⟩ (.string ((ar l0_3 x3_2).f2))).heap[s]? = some (.cells #[.int .i64 ((ar l0_3 x3_2).f0), .int .i64 ((ar l0_3 x3_2).f1), .string ((ar l0_3 x3_2).f2)] 113 (0, 0))) := ⟨Z9⟩
        have n2_ : ap (Below w.heap.size w (((bY.setCell ⟨s, 0, none⟩ (.int .i64 ((ar l0_3 x3_2).f0))).setCell ⟨s, 1, none⟩ (.int .i64 ((ar l0_3 x3_2).f1))).setCell ⟨s, 2, none⟩ (.string ((ar l0_3 x3_2).f2)))) := ⟨Z26⟩
        (try clear BK128); (try clear BK133); (try clear HB)
        generalize (((bY.setCell ⟨s, 0, none⟩ (.int .i64 ((ar l0_3 x3_2).f0))).setCell ⟨s, 1, none⟩ (.int .i64 ((ar l0_3 x3_2).f1))).setCell ⟨s, 2, none⟩ (.string ((ar l0_3 x3_2).f2))) = dX at n0_ n1_ n2_ ⊢
        have BK128 := n0_
        have BK133 := n1_
        have HB := n2_
        clear n0_ n1_ n2_
        replace BK128 := aM (ag BK128.out)
        replace BK133 := aM (ag BK133.out)
        replace HB := aM (ac HB.out)
        refine fe (n := 35) (S := fun w' => Qc3 s (.int .i64 ((ar l0_3 x3_2).f0)) (.int .i64 ((ar l0_3 x3_2).f1)) (.string ((ar l0_3 x3_2).f2)) (qc5 aF (.string J) (.int .i64 O) (.int .i64 I) (.slice (some Y) l0_3.length aA) (.slice aE y.length Z) w') w') (ds := []) #[false, false, false, false, false, false, false, false, false, false, false, false, false, false, false, false, false, false, false, false, false, false, false, false, false, false, false, false, false, false, false, false, false, false, false] (Z16) rfl rfl (bk3 BK133.out (bc5 BK128.out)) (fun hHeld => ?_); refine df bw.tab7 bw.bits7 (fun HT_ HW_ => ?_)
        generalize dX.drew = eU at BK128 BK133 HB hHeld ⊢
        refine pA 0 55 ?_
        refine pA 2 57 ?_
        refine tA 1 56 ?_
        refine tA 3 58 ?_
        refine pA 4 59 ?_
        refine oA 5 60 (fun K hK => ?_)
        refine fl func75 (Z16) rfl #[.int .i64 ((ar l0_3 x3_2).f0), .int .i64 1, .int .i64 (wrap64 (I - 1))] (Z96) rfl rfl (Z2) ?_
        with_reducible refine (cf.calls ((ar l0_3 x3_2).f0) 1 (wrap64 (I - 1)) true _ aZ.out).mono ?_
        rintro e w' ⟨rfl, ⟨nd, rfl⟩⟩
        refine ⟨_, rfl, ?_⟩
        refine hK.out _ _ (bk3 BK133.out (bc5 BK128.out)) (fun hHeld => ?_)
        clear hK K
        refine nB 60 ?_
        refine pA 6 61 ?_
        refine pA 7 62 ?_
        refine pA 8 63 ?_
        refine pA 9 64 ?_
        refine pA 10 65 ?_
        refine pU 11 66 ?_
        refine pU 12 67 ?_
        refine pU 13 68 ?_
        refine pU 14 69 ?_
        refine pU 15 70 ?_
        refine pU 16 71 ?_
        refine pU 17 72 ?_
        refine pU 18 73 ?_
        refine pU 19 74 ?_
        refine pU 20 75 ?_
        refine pA 21 76 ?_
        refine pA 22 77 ?_
        refine pA 23 78 ?_
        refine pA 24 79 ?_
        refine tA 25 80 ?_
        refine oA 26 81 (fun K hK => ?_)
        refine fl func75 (Z16) rfl #[.int .i64 ((ar l0_3 x3_2).f1), .int .i64 0, .int .i64 31] (Z96) rfl rfl (Z2) ?_
        with_reducible refine (cf.calls ((ar l0_3 x3_2).f1) 0 31 true _ cA.out).mono ?_
        rintro e w' ⟨rfl, ⟨nd, rfl⟩⟩
        refine ⟨_, rfl, ?_⟩
        refine hK.out _ _ (bk3 BK133.out (bc5 BK128.out)) (fun hHeld => ?_)
        clear hK K
        refine nB 81 ?_
        refine pA 27 82 ?_
        refine pA 28 83 ?_
        refine pA 29 84 ?_
        refine pA 30 85 ?_
        refine tA 31 86 ?_
        refine pA 32 87 ?_
        refine pA 33 88 ?_
        refine pA 34 89 ?_
        refine gh (ei HT_.out (Z16)) ?_
        try go_wp2
        go_roundg k2
        case measure => have := HJ1.out; have := HK2.out; omega
        case rel => exact ⟨(wrap64 (x3_2 + 1)), (Z3), H', ⟨Z172⟩, ⟨Z19⟩, ⟨Z26⟩⟩
       replace bW := be bW
       subst bW
       replace H := ifF H
       obtain rfl := oI H
       refine bD5 BK128 ?_
       intros
       have U : 0 <= (x3_2 : Int) := dT (Z4)
       have X : x3_2 < (l0_3.length : Int) := dT (Z4)
       obtain ⟨Y, aK, aB, aC, aD⟩ := ed aP.out x3_2 U X
       cases aK
       replace aB := cB HB.out aB
       replace aC := cB HB.out aC
       replace aD := cB HB.out aD
       replace U := bh U
       replace X := bh X
       try go_wp2_with (first | ((with_reducible refine gD 4 ?_); (try (refine dl (Z96) ?_; dsimp only)); refine bxF w 4 #[.int .i64 0, .int .i64 0, .string (⟨#[]⟩ : ByteArray)] 113 (Z8) ?_; intro s hg bZ BK133 a5 GE133 HB hb; have NB128_133 := aM ((nL BK128 hg (Z19))); have aL := aM ((nG BK128 hg (Z19))); replace BK128 := aM (kB BK128 (Z19) hb); clear hb hg; have eV := aL.out; have eW := NB128_133.out; refine bD3 BK133 ?_; intros))
       have n0_ : ap ((((bZ.setCell ⟨s, 0, none⟩ (.int .i64 ((ar l0_3 x3_2).f0))).setCell ⟨s, 1, none⟩ (.int .i64 ((ar l0_3 x3_2).f1))).setCell ⟨s, 2, none⟩ (.string ((ar l0_3 x3_2).f2))).heap[aF]? = some (.cells #[.string J, .int .i64 O, .int .i64 I, .slice (some Y) l0_3.length aA, .slice aE y.length Z] 82 (0, 0))) := ⟨Z18⟩
       have n1_ : ap ((((bZ.setCell ⟨s, 0, none⟩ (.int .i64 ((ar l0_3 x3_2).f0))).setCell ⟨s, 1, none⟩ (.int .i64 ((ar l0_3 x3_2).f1))).setCell ⟨s, 2, none⟩ (.string ((ar l0_3 x3_2).f2))).heap[s]? = some (.cells #[.int .i64 ((ar l0_3 x3_2).f0), .int .i64 ((ar l0_3 x3_2).f1), .string ((ar l0_3 x3_2).f2)] 113 (0, 0))) := ⟨Z9⟩
       have n2_ : ap (Below w.heap.size w (((bZ.setCell ⟨s, 0, none⟩ (.int .i64 ((ar l0_3 x3_2).f0))).setCell ⟨s, 1, none⟩ (.int .i64 ((ar l0_3 x3_2).f1))).setCell ⟨s, 2, none⟩ (.string ((ar l0_3 x3_2).f2)))) := ⟨Z26⟩
       (try clear BK128); (try clear BK133); (try clear HB)
       generalize (((bZ.setCell ⟨s, 0, none⟩ (.int .i64 ((ar l0_3 x3_2).f0))).setCell ⟨s, 1, none⟩ (.int .i64 ((ar l0_3 x3_2).f1))).setCell ⟨s, 2, none⟩ (.string ((ar l0_3 x3_2).f2))) = dY at n0_ n1_ n2_ ⊢
       have BK128 := n0_
       have BK133 := n1_
       have HB := n2_
       clear n0_ n1_ n2_
       replace BK128 := aM (ag BK128.out)
       replace BK133 := aM (ag BK133.out)
       replace HB := aM (ac HB.out)
       refine fe (n := 35) (S := fun w' => Qc3 s (.int .i64 ((ar l0_3 x3_2).f0)) (.int .i64 ((ar l0_3 x3_2).f1)) (.string ((ar l0_3 x3_2).f2)) (qc5 aF (.string J) (.int .i64 O) (.int .i64 I) (.slice (some Y) l0_3.length aA) (.slice aE y.length Z) w') w') (ds := []) #[false, false, false, false, false, false, false, false, false, false, false, false, false, false, false, false, false, false, false, false, false, false, false, false, false, false, false, false, false, false, false, false, false, false, false] (Z16) rfl rfl (bk3 BK133.out (bc5 BK128.out)) (fun hHeld => ?_); refine df bw.tab7 bw.bits7 (fun HT_ HW_ => ?_)
       generalize dY.drew = eX at BK128 BK133 HB hHeld ⊢
       refine pA 0 55 ?_
       refine pA 2 57 ?_
       refine tA 1 56 ?_
       refine tA 3 58 ?_
       refine pA 4 59 ?_
       refine oA 5 60 (fun K hK => ?_)
       refine fl func75 (Z16) rfl #[.int .i64 ((ar l0_3 x3_2).f0), .int .i64 1, .int .i64 (wrap64 (I - 1))] (Z96) rfl rfl (Z2) ?_
       with_reducible refine (cf.calls ((ar l0_3 x3_2).f0) 1 (wrap64 (I - 1)) true _ aZ.out).mono ?_
       rintro e w' ⟨rfl, ⟨nd, rfl⟩⟩
       refine ⟨_, rfl, ?_⟩
       refine hK.out _ _ (bk3 BK133.out (bc5 BK128.out)) (fun hHeld => ?_)
       clear hK K
       refine nB 60 ?_
       refine pA 6 61 ?_
       refine pA 7 62 ?_
       refine pA 8 63 ?_
       refine pA 9 64 ?_
       refine pA 10 65 ?_
       refine pU 11 66 ?_
       refine pU 12 67 ?_
       refine pU 13 68 ?_
       refine pU 14 69 ?_
       refine pU 15 70 ?_
       refine pU 16 71 ?_
       refine pU 17 72 ?_
       refine pU 18 73 ?_
       refine pU 19 74 ?_
       refine pU 20 75 ?_
       refine pA 21 76 ?_
       refine pA 22 77 ?_
       refine pA 23 78 ?_
       refine pA 24 79 ?_
       refine tA 25 80 ?_
       refine oA 26 81 (fun K hK => ?_)
       refine fl func75 (Z16) rfl #[.int .i64 ((ar l0_3 x3_2).f1), .int .i64 0, .int .i64 31] (Z96) rfl rfl (Z2) ?_
       with_reducible refine (cf.calls ((ar l0_3 x3_2).f1) 0 31 false _ cA.out).mono ?_
       rintro e w' ⟨rfl, ⟨nd, rfl⟩⟩
       refine ⟨_, rfl, ?_⟩
       refine hK.out _ _ (bk3 BK133.out (bc5 BK128.out)) (fun hHeld => ?_)
       clear hK K
       refine nB 81 ?_
       refine pA 27 82 ?_
       refine pA 28 83 ?_
       refine pA 29 84 ?_
       refine pU 30 85 ?_
       refine pU 31 86 ?_
       refine pU 32 87 ?_
       refine pU 33 88 ?_
       refine pA 34 89 ?_
       refine gh (ei HT_.out (Z16)) ?_
       try go_wp2
       go_ret
       exact ⟨Z1, Z26⟩
      replace bQ := be bQ
      subst bQ
      replace H := ifF H
      obtain rfl := oI H
      refine bD5 BK128 ?_
      intros
      have U : 0 <= (x3_2 : Int) := dT (Z4)
      have X : x3_2 < (l0_3.length : Int) := dT (Z4)
      obtain ⟨Y, aK, aB, aC, aD⟩ := ed aP.out x3_2 U X
      cases aK
      replace aB := cB HB.out aB
      replace aC := cB HB.out aC
      replace aD := cB HB.out aD
      replace U := bh U
      replace X := bh X
      try go_wp2_with (first | ((with_reducible refine gD 4 ?_); (try (refine dl (Z96) ?_; dsimp only)); refine bxF w 4 #[.int .i64 0, .int .i64 0, .string (⟨#[]⟩ : ByteArray)] 113 (Z8) ?_; intro s hg b0 BK133 a5 GE133 HB hb; have NB128_133 := aM ((nL BK128 hg (Z19))); have aL := aM ((nG BK128 hg (Z19))); replace BK128 := aM (kB BK128 (Z19) hb); clear hb hg; have eY := aL.out; have eZ := NB128_133.out; refine bD3 BK133 ?_; intros))
      have n0_ : ap ((((b0.setCell ⟨s, 0, none⟩ (.int .i64 ((ar l0_3 x3_2).f0))).setCell ⟨s, 1, none⟩ (.int .i64 ((ar l0_3 x3_2).f1))).setCell ⟨s, 2, none⟩ (.string ((ar l0_3 x3_2).f2))).heap[aF]? = some (.cells #[.string J, .int .i64 O, .int .i64 I, .slice (some Y) l0_3.length aA, .slice aE y.length Z] 82 (0, 0))) := ⟨Z18⟩
      have n1_ : ap ((((b0.setCell ⟨s, 0, none⟩ (.int .i64 ((ar l0_3 x3_2).f0))).setCell ⟨s, 1, none⟩ (.int .i64 ((ar l0_3 x3_2).f1))).setCell ⟨s, 2, none⟩ (.string ((ar l0_3 x3_2).f2))).heap[s]? = some (.cells #[.int .i64 ((ar l0_3 x3_2).f0), .int .i64 ((ar l0_3 x3_2).f1), .string ((ar l0_3 x3_2).f2)] 113 (0, 0))) := ⟨Z9⟩
      have n2_ : ap (Below w.heap.size w (((b0.setCell ⟨s, 0, none⟩ (.int .i64 ((ar l0_3 x3_2).f0))).setCell ⟨s, 1, none⟩ (.int .i64 ((ar l0_3 x3_2).f1))).setCell ⟨s, 2, none⟩ (.string ((ar l0_3 x3_2).f2)))) := ⟨Z26⟩
      (try clear BK128); (try clear BK133); (try clear HB)
      generalize (((b0.setCell ⟨s, 0, none⟩ (.int .i64 ((ar l0_3 x3_2).f0))).setCell ⟨s, 1, none⟩ (.int .i64 ((ar l0_3 x3_2).f1))).setCell ⟨s, 2, none⟩ (.string ((ar l0_3 x3_2).f2))) = dZ at n0_ n1_ n2_ ⊢
      have BK128 := n0_
      have BK133 := n1_
      have HB := n2_
      clear n0_ n1_ n2_
      replace BK128 := aM (ag BK128.out)
      replace BK133 := aM (ag BK133.out)
      replace HB := aM (ac HB.out)
      refine fe (n := 35) (S := fun w' => Qc3 s (.int .i64 ((ar l0_3 x3_2).f0)) (.int .i64 ((ar l0_3 x3_2).f1)) (.string ((ar l0_3 x3_2).f2)) (qc5 aF (.string J) (.int .i64 O) (.int .i64 I) (.slice (some Y) l0_3.length aA) (.slice aE y.length Z) w') w') (ds := []) #[false, false, false, false, false, false, false, false, false, false, false, false, false, false, false, false, false, false, false, false, false, false, false, false, false, false, false, false, false, false, false, false, false, false, false] (Z16) rfl rfl (bk3 BK133.out (bc5 BK128.out)) (fun hHeld => ?_); refine df bw.tab7 bw.bits7 (fun HT_ HW_ => ?_)
      generalize dZ.drew = e0 at BK128 BK133 HB hHeld ⊢
      refine pA 0 55 ?_
      refine pA 2 57 ?_
      refine tA 1 56 ?_
      refine tA 3 58 ?_
      refine pA 4 59 ?_
      refine oA 5 60 (fun K hK => ?_)
      refine fl func75 (Z16) rfl #[.int .i64 ((ar l0_3 x3_2).f0), .int .i64 1, .int .i64 (wrap64 (I - 1))] (Z96) rfl rfl (Z2) ?_
      with_reducible refine (cf.calls ((ar l0_3 x3_2).f0) 1 (wrap64 (I - 1)) false _ aZ.out).mono ?_
      rintro e w' ⟨rfl, ⟨nd, rfl⟩⟩
      refine ⟨_, rfl, ?_⟩
      refine hK.out _ _ (bk3 BK133.out (bc5 BK128.out)) (fun hHeld => ?_)
      clear hK K
      refine nB 60 ?_
      refine pA 6 61 ?_
      refine pA 7 62 ?_
      refine pU 8 63 ?_
      refine pU 9 64 ?_
      refine pU 10 65 ?_
      refine pU 11 66 ?_
      refine pU 12 67 ?_
      refine pU 13 68 ?_
      refine pU 14 69 ?_
      refine pU 15 70 ?_
      refine pU 16 71 ?_
      refine pU 17 72 ?_
      refine pU 18 73 ?_
      refine pU 19 74 ?_
      refine pU 20 75 ?_
      refine pU 21 76 ?_
      refine pA 22 77 ?_
      refine pA 23 78 ?_
      refine pU 24 79 ?_
      refine pU 25 80 ?_
      refine pU 26 81 ?_
      refine pU 27 82 ?_
      refine pA 28 83 ?_
      refine pA 29 84 ?_
      refine pU 30 85 ?_
      refine pU 31 86 ?_
      refine pU 32 87 ?_
      refine pU 33 88 ?_
      refine pA 34 89 ?_
      refine gh (ei HT_.out (Z16)) ?_
      try go_wp2
      go_ret
      exact ⟨Z1, Z26⟩
     rw [if_neg a3] at H
     have cN := ba a3
     clear a3
     have H' := aM H
     clear H
     refine bD5 BK128 ?_
     intros
     go_wp2
     go_loopg [5] k2 (fun kq v5 w' => ∃ (D : Int), v5 = .int .i64 D /\ ap (bw.l1 kq D J O I l0_3 y = some r) /\ ap (kq <= k2) /\ ap (w'.heap[aF]? = some (.cells #[.string J, .int .i64 O, .int .i64 I, (.slice aX l0_3.length aA), (.slice aE y.length Z)] 82 (0, 0))) /\ ap (Below w.heap.size w w'))
     case atStart => exact ⟨(0), (Z3), H', ⟨bj _⟩, ⟨Z19⟩, ⟨Z8⟩⟩
     case round =>
      clear H'
      (try clear a3); (try clear cN)
      obtain ⟨D, rfl, HA, cR, BK128, HB⟩ := hrel
      cases gk with
      | zero => exact absurd HA.out (by simp [bw.l1])
      | succ k3 =>
       have H := HA.out
       clear HA
       simp only [bw.l1] at H
       by_cases bH : D < (y.length : Int)
       ·rw [if_pos bH] at H
        have d1 := az bH
        clear bH
        obtain ⟨cS, H⟩ := ifS H
        have e1 := az cS
        clear cS
        obtain ⟨d2, cD, H⟩ := cz H
        try dsimp only at H
        by_cases b1 : d2 = true
        ·subst b1
         replace H := ifT H
         have e2 := bh (dT (Z4) : 0 <= D)
         obtain ⟨cG, H⟩ := ifS H
         have e3 := bh cG
         have e4 : decide (D <= (y.length : Int)) = true := az cG
         clear cG
         obtain ⟨d3, cT, H⟩ := cz H
         try dsimp only at H
         by_cases b2 : d3 = true
         ·subst b2
          replace H := ifT H
          obtain rfl := oI H
          refine bD5 BK128 ?_
          intros
          try go_wp2
          replace BK128 := aM (ag BK128.out)
          replace HB := aM (ac HB.out)
          have aU : 0 <= (D : Int) := dT (Z4)
          have aV : D < (y.length : Int) := dT (Z4)
          obtain ⟨aJ, bM, aT⟩ := Kd.at_string aY.out D aU aV
          have aW := aT
          cases bM
          replace aT := cB HB.out aT
          replace aU := bh aU
          replace aV := bh aV
          have a8 : 0 <= (D : Int) := dT (Z4)
          have a9 : D < (y.length : Int) := dT (Z4)
          obtain ⟨cH, cI, a2⟩ := Kd.at_string aY.out D a8 a9
          have bA := a2
          obtain rfl : aJ = cH := (by injection cI)
          replace a2 := cB HB.out a2
          replace a8 := bh a8
          replace a9 := bh a9
          refine fe (n := 20) (S := fun w' => Qc5 aF (.string J) (.int .i64 O) (.int .i64 I) (.slice aX l0_3.length aA) (.slice (some aJ) y.length Z) (w'.cell? (aJ.add (D).toNat) = some (.string (gb ByteArray.empty y D)) /\ w'.cell? (aJ.add (D).toNat) = some (.string (gb ByteArray.empty y D))) w') (ds := []) #[false, false, false, false, false, false, false, false, false, false, false, false, false, false, false, false, false, false, false, false] (Z16) rfl rfl (bk5 BK128.out (⟨(cB HB.out aW :), (cB HB.out bA :)⟩)) (fun hHeld => ?_); refine df bw.tab12 bw.bits12 (fun HT_ HW_ => ?_)
          generalize wr.drew = e5 at BK128 HB aT a2 hHeld ⊢
          refine pA 0 97 ?_
          refine pA 2 99 ?_
          refine tA 1 98 ?_
          refine pA 3 100 ?_
          refine tA 4 101 ?_
          refine pA 5 102 ?_
          refine oA 6 103 (fun K hK => ?_)
          refine fl func75 (Z16) rfl #[.int .i64 ((gb ByteArray.empty y D).size : Int), .int .i64 1, .int .i64 200] (Z96) rfl rfl (Z2) ?_
          with_reducible refine (cf.calls ((gb ByteArray.empty y D).size : Int) 1 200 true _ cD.out).mono ?_
          rintro e w' ⟨rfl, ⟨nd, rfl⟩⟩
          refine ⟨_, rfl, ?_⟩
          obtain ⟨i093, cU, _, cV, _⟩ := info_parts info9
          obtain ⟨e6, cX, cY⟩ := print_take_of (P := prog) Value.string (⟨#[]⟩ : ByteArray) 66 9 .i64 underlying66 cU cV (some aJ) Z y D (dT (Z4)) (dT (Z4)) bN.out
          have cJ := aM (Kd.C_of_reads (h1 := fun _ => rfl) (cX _ (Kd.reads_of_C aY.out)))
          have cK := aM cY
          clear cX cY cU cV
          refine hK.out _ _ (bk5 BK128.out (⟨(cB HB.out aW :), (cB HB.out bA :)⟩)) (fun hHeld => ?_)
          clear hK K
          refine nB 103 ?_
          refine pA 7 104 ?_
          refine pA 8 105 ?_
          refine pA 9 106 ?_
          refine pA 11 108 ?_
          refine pA 13 110 ?_
          refine pA 15 112 ?_
          refine tA 10 107 ?_
          refine pA 12 109 ?_
          refine tA 14 111 ?_
          refine pA 16 113 ?_
          refine tA 17 114 ?_
          refine oA 18 115 (fun K hK => ?_)
          refine fl func77 (Z16) rfl #[.slice (some aJ) (y.take (D : Int).toNat).length Z, .string (gb ByteArray.empty y D)] (Z96) rfl rfl (by (try simp only [List.map_toArray, List.map_cons, List.map_nil]); first | done | (rw [show (y.take (D : Int).toNat).length = D.toNat from (by rw [List.length_take]; have h_ : (D : Int) <= (y.length : Int) := dT (Z4); omega)] <;> rfl) | rfl | (simp only [List.length_drop, List.length_take]; rfl)) ?_
          with_reducible refine (ev.calls k3 _ _ (y.take (D : Int).toNat) (gb ByteArray.empty y D) true _ ?Y1 ?Y2 cT.out).mono ?_
          (case Y1 => repeat (first | exact (Kd.C_below cJ.out (Z8)) | (with_reducible refine Kd.C_alloc ?_ _) | (with_reducible refine Kd.C_drewN ?_ _) | (with_reducible refine Kd.C_drew ?_)))
          (case Y2 => exact cK.out)
          rintro e w' ⟨rfl, ⟨nd, rfl⟩⟩
          refine ⟨_, rfl, ?_⟩
          refine hK.out _ _ (bk5 BK128.out (⟨(cB HB.out aW :), (cB HB.out bA :)⟩)) (fun hHeld => ?_)
          clear hK K
          refine nB 115 ?_
          refine pA 19 116 ?_
          refine gh (ei HT_.out (Z16)) ?_
          try go_wp2
          go_ret
          exact ⟨Z1, Z8⟩
         replace b2 := be b2
         subst b2
         replace H := ifF H
         have H' := aM H
         clear H
         refine bD5 BK128 ?_
         intros
         try go_wp2
         replace BK128 := aM (ag BK128.out)
         replace HB := aM (ac HB.out)
         have aU : 0 <= (D : Int) := dT (Z4)
         have aV : D < (y.length : Int) := dT (Z4)
         obtain ⟨aJ, bM, aT⟩ := Kd.at_string aY.out D aU aV
         have aW := aT
         cases bM
         replace aT := cB HB.out aT
         replace aU := bh aU
         replace aV := bh aV
         have a8 : 0 <= (D : Int) := dT (Z4)
         have a9 : D < (y.length : Int) := dT (Z4)
         obtain ⟨cH, cI, a2⟩ := Kd.at_string aY.out D a8 a9
         have bA := a2
         obtain rfl : aJ = cH := (by injection cI)
         replace a2 := cB HB.out a2
         replace a8 := bh a8
         replace a9 := bh a9
         refine fe (n := 20) (S := fun w' => Qc5 aF (.string J) (.int .i64 O) (.int .i64 I) (.slice aX l0_3.length aA) (.slice (some aJ) y.length Z) (w'.cell? (aJ.add (D).toNat) = some (.string (gb ByteArray.empty y D)) /\ w'.cell? (aJ.add (D).toNat) = some (.string (gb ByteArray.empty y D))) w') (ds := []) #[false, false, false, false, false, false, false, false, false, false, false, false, false, false, false, false, false, false, false, false] (Z16) rfl rfl (bk5 BK128.out (⟨(cB HB.out aW :), (cB HB.out bA :)⟩)) (fun hHeld => ?_); refine df bw.tab12 bw.bits12 (fun HT_ HW_ => ?_)
         generalize wr.drew = e7 at BK128 HB aT a2 hHeld ⊢
         refine pA 0 97 ?_
         refine pA 2 99 ?_
         refine tA 1 98 ?_
         refine pA 3 100 ?_
         refine tA 4 101 ?_
         refine pA 5 102 ?_
         refine oA 6 103 (fun K hK => ?_)
         refine fl func75 (Z16) rfl #[.int .i64 ((gb ByteArray.empty y D).size : Int), .int .i64 1, .int .i64 200] (Z96) rfl rfl (Z2) ?_
         with_reducible refine (cf.calls ((gb ByteArray.empty y D).size : Int) 1 200 true _ cD.out).mono ?_
         rintro e w' ⟨rfl, ⟨nd, rfl⟩⟩
         refine ⟨_, rfl, ?_⟩
         obtain ⟨i096, cZ, _, dA, _⟩ := info_parts info9
         obtain ⟨e8, dB, dC⟩ := print_take_of (P := prog) Value.string (⟨#[]⟩ : ByteArray) 66 9 .i64 underlying66 cZ dA (some aJ) Z y D (dT (Z4)) (dT (Z4)) bN.out
         have cJ := aM (Kd.C_of_reads (h1 := fun _ => rfl) (dB _ (Kd.reads_of_C aY.out)))
         have cK := aM dC
         clear dB dC cZ dA
         refine hK.out _ _ (bk5 BK128.out (⟨(cB HB.out aW :), (cB HB.out bA :)⟩)) (fun hHeld => ?_)
         clear hK K
         refine nB 103 ?_
         refine pA 7 104 ?_
         refine pA 8 105 ?_
         refine pA 9 106 ?_
         refine pA 11 108 ?_
         refine pA 13 110 ?_
         refine pA 15 112 ?_
         refine tA 10 107 ?_
         refine pA 12 109 ?_
         refine tA 14 111 ?_
         refine pA 16 113 ?_
         refine tA 17 114 ?_
         refine oA 18 115 (fun K hK => ?_)
         refine fl func77 (Z16) rfl #[.slice (some aJ) (y.take (D : Int).toNat).length Z, .string (gb ByteArray.empty y D)] (Z96) rfl rfl (by (try simp only [List.map_toArray, List.map_cons, List.map_nil]); first | done | (rw [show (y.take (D : Int).toNat).length = D.toNat from (by rw [List.length_take]; have h_ : (D : Int) <= (y.length : Int) := dT (Z4); omega)] <;> rfl) | rfl | (simp only [List.length_drop, List.length_take]; rfl)) ?_
         with_reducible refine (ev.calls k3 _ _ (y.take (D : Int).toNat) (gb ByteArray.empty y D) false _ ?Y1 ?Y2 cT.out).mono ?_
         (case Y1 => repeat (first | exact (Kd.C_below cJ.out (Z8)) | (with_reducible refine Kd.C_alloc ?_ _) | (with_reducible refine Kd.C_drewN ?_ _) | (with_reducible refine Kd.C_drew ?_)))
         (case Y2 => exact cK.out)
         rintro e w' ⟨rfl, ⟨nd, rfl⟩⟩
         refine ⟨_, rfl, ?_⟩
         refine hK.out _ _ (bk5 BK128.out (⟨(cB HB.out aW :), (cB HB.out bA :)⟩)) (fun hHeld => ?_)
         clear hK K
         refine nB 115 ?_
         refine pA 19 116 ?_
         refine gh (ei HT_.out (Z16)) ?_
         try go_wp2
         go_roundg k3
         case measure => have := HJ1.out; have := HK2.out; have := cR.out; omega
         case rel => exact ⟨(wrap64 (D + 1)), (Z3), H', ⟨by have := HJ1.out; have := HK2.out; have := cR.out; omega⟩, ⟨Z19⟩, ⟨Z8⟩⟩
        replace b1 := be b1
        subst b1
        replace H := ifF H
        obtain rfl := oI H
        refine bD5 BK128 ?_
        intros
        try go_wp2
        replace BK128 := aM (ag BK128.out)
        replace HB := aM (ac HB.out)
        have aU : 0 <= (D : Int) := dT (Z4)
        have aV : D < (y.length : Int) := dT (Z4)
        obtain ⟨aJ, bM, aT⟩ := Kd.at_string aY.out D aU aV
        have aW := aT
        cases bM
        replace aT := cB HB.out aT
        replace aU := bh aU
        replace aV := bh aV
        refine fe (n := 20) (S := fun w' => Qc5 aF (.string J) (.int .i64 O) (.int .i64 I) (.slice aX l0_3.length aA) (.slice (some aJ) y.length Z) (w'.cell? (aJ.add (D).toNat) = some (.string (gb ByteArray.empty y D))) w') (ds := []) #[false, false, false, false, false, false, false, false, false, false, false, false, false, false, false, false, false, false, false, false] (Z16) rfl rfl (bk5 BK128.out ((cB HB.out aW :))) (fun hHeld => ?_); refine df bw.tab12 bw.bits12 (fun HT_ HW_ => ?_)
        generalize wr.drew = e9 at BK128 HB aT hHeld ⊢
        refine pA 0 97 ?_
        refine pA 2 99 ?_
        refine tA 1 98 ?_
        refine pA 3 100 ?_
        refine tA 4 101 ?_
        refine pA 5 102 ?_
        refine oA 6 103 (fun K hK => ?_)
        refine fl func75 (Z16) rfl #[.int .i64 ((gb ByteArray.empty y D).size : Int), .int .i64 1, .int .i64 200] (Z96) rfl rfl (Z2) ?_
        with_reducible refine (cf.calls ((gb ByteArray.empty y D).size : Int) 1 200 false _ cD.out).mono ?_
        rintro e w' ⟨rfl, ⟨nd, rfl⟩⟩
        refine ⟨_, rfl, ?_⟩
        refine hK.out _ _ (bk5 BK128.out ((cB HB.out aW :))) (fun hHeld => ?_)
        clear hK K
        refine nB 103 ?_
        refine pA 7 104 ?_
        refine pA 8 105 ?_
        refine pU 9 106 ?_
        refine pU 10 107 ?_
        refine pU 11 108 ?_
        refine pU 12 109 ?_
        refine pU 13 110 ?_
        refine pU 14 111 ?_
        refine pU 15 112 ?_
        refine pU 16 113 ?_
        refine pU 17 114 ?_
        refine pU 18 115 ?_
        refine pA 19 116 ?_
        refine gh (ei HT_.out (Z16)) ?_
        try go_wp2
        go_ret
        exact ⟨Z1, Z8⟩
       rw [if_neg bH] at H
       have d1 := ba bH
       clear bH
       obtain rfl := oI H
       refine bD5 BK128 ?_
       intros
       go_wp2
       go_ret
       exact ⟨Z1, Z8⟩
def cy.l0 : Nat -> List (S82) -> Int -> Option (Bool)
 | 0, _, _ => none
 | k + 1, x0, x3 => if x3 < (x0.length : Int) then (if 0 <= x3 then ((bw.f k ((ax x0 x3).f0) ((ax x0 x3).f1) ((ax x0 x3).f2) ((ax x0 x3).f3) ((ax x0 x3).f4)).bind fun s => (if s = true then (if ((ax x0 x3).f1) = (wrap64 (x3 + 1)) then (if x3 <= (x0.length : Int) then ((dq.f k (x0.take (x3 : Int).toNat) ((ax x0 x3).f0)).bind fun y => (if y ≥ 0 then (some false) else (cy.l0 k x0 (wrap64 (x3 + 1))))) else (none)) else (some false)) else (some false))) else (none)) else (some true)
def cy.f (k : Nat) (l0 : List (S82)) : Option (Bool) := if (l0.length : Int) > 4096 then (some false) else (if (l0.length : Int) > 4 then (some false) else (cy.l0 k l0 0))
def cy.T8 : Bool × List (List Nat × List Nat) := (true, [([], []), ([], []), ([0, 1], [0, 1]), ([2], [2]), ([3], [3]), ([4], [4]), ([5, 4], [5]), ([6], [6]), ([6], [6]), ([7, 8, 6], [6, 7, 8]), ([9, 6], [6, 9]), ([10, 6], [6, 10]), ([6], [6]), ([12, 6], [6, 12]), ([11, 13, 6], [6, 11, 13]), ([6, 14], [6, 14]), ([15, 6], [15]), ([16], [16]), ([16], [16]), ([17, 18, 16], [16, 17, 18]), ([16], [16]), ([16], [16]), ([20, 21, 16], [16, 20, 21]), ([22, 16], [16, 22]), ([23, 16], [16, 23]), ([19, 24, 16, 16], [16, 19, 24]), ([25, 16], [16, 25]), ([16, 26], [16, 26])])
def cy.B8 : List Nat := [0, 0, 3, 7, 15, 31, 63, 127, 127, 511, 1023, 2047, 127, 4223, 16383, 32767, 65535, 131071, 131071, 524287, 131071, 131071, 3276799, 7471103, 15859711, 33554431, 67108863, 134217727]
theorem cy.tab8 : rtab .any (opsOf Tryz.f70 8) = cy.T8 := by kernel_rfl
theorem cy.bits8 : waitsOk cy.T8.2 cy.B8 = true := by kernel_rfl
theorem cy.calls (k : Nat) (A0 : Option Addr) (c0 : Nat) (l0 : List (S82)) (r : Bool) (w : World) (hr0 : Kd.C k82 w A0 l0.length l0) (b7 : l0.length <= c0) (h : cy.f k l0 = some r) :
  Calls prog 70 #[.slice A0 l0.length c0] w fun e w' => e = .returned (.bool r) /\ Below w.heap.size w w' := by
 have dS := underlying82
 replace hr0 := aM hr0
 replace b7 := aM b7
 have HB := aM (bi w.heap.size w)
 have H := h
 clear h
 unfold cy.f at H
 by_cases c2 : (l0.length : Int) > 4096
 ·rw [if_pos c2] at H
  have cN : decide (4096 < (l0.length : Int)) = true := az c2
  have cO : decide (4096 < l0.length) = true := az (Z31)
  clear c2
  obtain rfl := oI H
  go_enter func70, ntmps70
  go_wp2
  go_ret
  exact ⟨Z1, Z0⟩
 rw [if_neg c2] at H
 have cN : decide (4096 < (l0.length : Int)) = false := ba c2
 have cO : decide (4096 < l0.length) = false := ba (Z31)
 clear c2
 by_cases c3 : (l0.length : Int) > 4
 ·rw [if_pos c3] at H
  have cP : decide (4 < (l0.length : Int)) = true := az c3
  have cQ : decide (4 < l0.length) = true := az (Z31)
  clear c3
  obtain rfl := oI H
  go_enter func70, ntmps70
  go_wp2
  go_ret
  exact ⟨Z1, Z0⟩
 rw [if_neg c3] at H
 have cP : decide (4 < (l0.length : Int)) = false := ba c3
 have cQ : decide (4 < l0.length) = false := ba (Z31)
 clear c3
 have H' := aM H
 clear H
 go_enter func70, ntmps70
 go_wp2
 go_loopg [3] k (fun kq v3 w' => ∃ (s : Int), v3 = .int .i64 s /\ ap (cy.l0 kq l0 s = some r) /\ ap (kq <= k) /\ ap (Below w.heap.size w w'))
 case atStart => exact ⟨(0), (Z3), H', ⟨bj _⟩, ⟨Z0⟩⟩
 case round =>
  clear H'
  (try clear c2); (try clear cN); (try clear cO); (try clear c3); (try clear cP); (try clear cQ)
  obtain ⟨s, rfl, HA, HK1, HB⟩ := hrel
  cases gk with
  | zero => exact absurd HA.out (by simp [cy.l0])
  | succ k1 =>
   have H := HA.out
   clear HA
   simp only [cy.l0] at H
   by_cases c4 : s < (l0.length : Int)
   ·rw [if_pos c4] at H
    have dD := az c4
    clear c4
    obtain ⟨c5, H⟩ := ifS H
    have zq := az c5
    clear c5
    obtain ⟨dE, A6, H⟩ := cz H
    try dsimp only at H
    by_cases c7 : dE = true
    ·subst c7
     replace H := ifT H
     by_cases c8 : ((ax l0 s).f1) = (wrap64 (s + 1))
     ·rw [if_pos c8] at H
      have dF := bf c8
      have dG := bc c8
      clear c8
      have dU := bh (dT (Z4) : 0 <= s)
      obtain ⟨c10, H⟩ := ifS H
      have dV := bh c10
      have dW : decide (s <= (l0.length : Int)) = true := az c10
      clear c10
      obtain ⟨a6, bV⟩ : ∃ y_ : List (S82), y_ = (l0.take (s : Int).toNat) := ⟨_, rfl⟩
      replace H : ((dq.f k1 a6 ((ax l0 s).f0)).bind fun bE => (if bE ≥ 0 then (some false) else (cy.l0 k1 l0 (wrap64 (s + 1))))) = some r := by first | (rw [bV]; with_reducible exact H) | (have H2_ := (Option.bind_some _ _).symm.trans H; rw [bV]; with_reducible exact H2_) | (have H2_ := (Option.bind_some _ _).symm.trans H; with_reducible exact H2_) | with_reducible exact H | (rw [bV]; exact H) | exact H
      have b9 := aM bV
      clear bV
      obtain ⟨bE, cR, H⟩ := cz H
      try dsimp only at H
      by_cases bT : bE ≥ 0
      ·rw [if_pos bT] at H
       have dH : decide (0 <= bE) = true := az bT
       clear bT
       obtain rfl := oI H
       try go_wp2
       replace HB := aM (ac HB.out)
       have Y : 0 <= (s : Int) := dT (Z4)
       have Z : s < (l0.length : Int) := dT (Z4)
       obtain ⟨y, aI, aJ, aK, aL, bF, D, I, J, M, O, aN, aO, aP, aQ⟩ := em hr0.out s Y Z
       have aD := O
       have aE := M
       have aF := J
       have aG := I
       have aH := D
       cases bF
       replace D := cB HB.out D
       replace I := cB HB.out I
       replace J := cB HB.out J
       replace M := cB HB.out M
       replace O := cB HB.out O
       have aR := aM aO
       have bG := aM aN
       clear aO aN
       have aS := aM aQ
       have bH := aM aP
       clear aQ aP
       replace Y := bh Y
       replace Z := bh Z
       have aT : 0 <= (s : Int) := dT (Z4)
       have aU : s < (l0.length : Int) := dT (Z4)
       obtain ⟨bW, bI, bJ, bK, bL, bX, aA, aB, aC, U, X, bA, bB, bC, bD⟩ := em hr0.out s aT aU
       have aX := X
       have aY := U
       have aZ := aC
       have a2 := aB
       have a3 := aA
       obtain rfl : y = bW := (by injection bX)
       replace aA := cB HB.out aA
       replace aB := cB HB.out aB
       replace aC := cB HB.out aC
       replace U := cB HB.out U
       replace X := cB HB.out X
       have bY := aM bB
       have cS := aM bA
       clear bB bA
       have bZ := aM bD
       have cT := aM bC
       clear bD bC
       replace aT := bh aT
       replace aU := bh aU
       have bM : 0 <= (s : Int) := dT (Z4)
       have bN : s < (l0.length : Int) := dT (Z4)
       obtain ⟨cA, dI, dJ, dK, dL, cC, a7, a8, a9, aV, aW, b0, b1, b2, b6⟩ := em hr0.out s bM bN
       have bO := aW
       have bP := aV
       have bQ := a9
       have bR := a8
       have bS := a7
       obtain rfl : y = cA := (by injection cC)
       replace a7 := cB HB.out a7
       replace a8 := cB HB.out a8
       replace a9 := cB HB.out a9
       replace aV := cB HB.out aV
       replace aW := cB HB.out aW
       have cD := aM b1
       have dM := aM b0
       clear b1 b0
       have cG := aM b6
       have dN := aM b2
       clear b6 b2
       replace bM := bh bM
       replace bN := bh bN
       have ea_ := Option.some.inj (U.symm.trans aV)
       injection ea_ with ea_ en_ ec_
       subst ea_
       subst ec_
       clear en_
       have ea_ := Option.some.inj (X.symm.trans aW)
       injection ea_ with ea_ en_ ec_
       subst ea_
       subst ec_
       clear en_
       refine fe (n := 28) (S := fun w' => Qa5 (y.add ((s).toNat * 5)) (.string ((ax l0 s).f0)) (.int .i64 ((ax l0 s).f1)) (.int .i64 ((ax l0 s).f2)) (.slice aI ((ax l0 s).f3).length aJ) (.slice aK ((ax l0 s).f4).length aL) (Qa5 (y.add ((s).toNat * 5)) (.string ((ax l0 s).f0)) (.int .i64 ((ax l0 s).f1)) (.int .i64 ((ax l0 s).f2)) (.slice bI ((ax l0 s).f3).length bJ) (.slice bK ((ax l0 s).f4).length bL) (qa5 (y.add ((s).toNat * 5)) (.string ((ax l0 s).f0)) (.int .i64 ((ax l0 s).f1)) (.int .i64 ((ax l0 s).f2)) (.slice bI ((ax l0 s).f3).length bJ) (.slice bK ((ax l0 s).f4).length bL) w') w') w') (ds := []) #[false, false, false, false, false, false, false, false, false, false, false, false, false, false, false, false, false, false, false, false, false, false, false, false, false, false, false, false] (Z16) rfl rfl ⟨(cB HB.out aH :), ⟨(cB HB.out aG :), ⟨(cB HB.out aF :), ⟨(cB HB.out aE :), ⟨(cB HB.out aD :), ⟨(cB HB.out a3 :), ⟨(cB HB.out a2 :), ⟨(cB HB.out aZ :), ⟨(cB HB.out aY :), ⟨(cB HB.out aX :), ⟨(cB HB.out bS :), ⟨(cB HB.out bR :), ⟨(cB HB.out bQ :), ⟨(cB HB.out bP :), (cB HB.out bO :)⟩⟩⟩⟩⟩⟩⟩⟩⟩⟩⟩⟩⟩⟩ (fun hHeld => ?_); refine df cy.tab8 cy.bits8 (fun HT_ HW_ => ?_)
       generalize wr.drew = dX at HB aR aS bY bZ cD cG D I J M O aA aB aC U X a7 a8 a9 aV aW hHeld ⊢
       refine pA 0 16 ?_
       refine pA 1 17 ?_
       refine pA 2 18 ?_
       refine tA 3 19 ?_
       refine oA 4 20 (fun K hK => ?_)
       refine fl func109 (Z16) rfl #[.agg #[.string ((ax l0 s).f0), .int .i64 ((ax l0 s).f1), .int .i64 ((ax l0 s).f2), .slice aI ((ax l0 s).f3).length aJ, .slice aK ((ax l0 s).f4).length aL]] (Z96) rfl rfl (Z2) ?_
       with_reducible refine (bw.calls k1 ((ax l0 s).f0) ((ax l0 s).f1) ((ax l0 s).f2) _ _ ((ax l0 s).f3) _ _ ((ax l0 s).f4) true _ ?Y1 ?Y2 ?Y3 ?Y4 A6.out).mono ?_
       (case Y1 => have h_ := Kd.C_below aR.out HB.out; exact tC)
       (case Y2 => exact bG.out)
       (case Y3 => have h_ := Kd.C_below aS.out HB.out; exact tC)
       (case Y4 => exact bH.out)
       rintro e dY ⟨rfl, hb⟩
       refine ⟨_, rfl, ?_⟩
       replace HB := aM (ae (Z0) hb)
       (try clear hb)
       have cH : (s : Int) <= ((l0.length : Int) : Int) := dT (Z4)
       obtain ⟨i015, cU, _, dO, _⟩ := info_parts info82
       have cV : l0.length <= c0 := b7.out
       have cX : Kd.C k82 _ (some y) l0.length l0 := hr0.out
       have dP := cut_to (P := prog) 33 82 .i64 underlying33 cU (some y) l0.length c0 s (dT (Z4)) cH cV
       have bU := Kd.C_take (m := (s : Int).toNat) cX (Z31)
       have cI : a6.length = (s : Int).toNat := (by rw [b9.out, List.length_take]; omega)
       rw [← b9.out] at bU
       rw [← cI] at dP
       replace bU := aM bU
       have cJ := aM (show a6.length <= c0 from by omega)
       clear  cX cV cU dO
       have dZ := aM cI
       clear cI
       replace cH := bh cH
       refine hK.out _ _ ⟨(cB HB.out aH :), ⟨(cB HB.out aG :), ⟨(cB HB.out aF :), ⟨(cB HB.out aE :), ⟨(cB HB.out aD :), ⟨(cB HB.out a3 :), ⟨(cB HB.out a2 :), ⟨(cB HB.out aZ :), ⟨(cB HB.out aY :), ⟨(cB HB.out aX :), ⟨(cB HB.out bS :), ⟨(cB HB.out bR :), ⟨(cB HB.out bQ :), ⟨(cB HB.out bP :), (cB HB.out bO :)⟩⟩⟩⟩⟩⟩⟩⟩⟩⟩⟩⟩⟩⟩ (fun hHeld => ?_)
       clear hK K
       refine nB 20 ?_
       refine pA 5 21 ?_
       refine pA 6 22 ?_
       refine pA 7 23 ?_
       refine pA 8 24 ?_
       refine pA 9 25 ?_
       refine pA 10 26 ?_
       refine pA 12 28 ?_
       refine pA 13 29 ?_
       refine tA 11 27 ?_
       refine pA 14 30 ?_
       refine pA 15 31 ?_
       refine pA 16 32 ?_
       refine pA 17 33 ?_
       refine pA 18 34 ?_
       refine pA 19 35 ?_
       refine pA 20 36 ?_
       refine pA 21 37 ?_
       refine pA 22 38 ?_
       refine pA 23 39 ?_
       refine tA 24 40 ?_
       refine oA 25 41 (fun K hK => ?_)
       refine fl func76 (Z16) rfl #[.slice (some y) a6.length c0, .string ((ax l0 s).f0)] (Z96) rfl rfl (Z2) ?_
       with_reducible refine (dq.calls k1 _ _ a6 ((ax l0 s).f0) bE _ ?Y1 ?Y2 cR.out).mono ?_
       (case Y1 => have h_ := Kd.C_below bU.out HB.out; exact tC)
       (case Y2 => exact cJ.out)
       rintro e w' ⟨rfl, ⟨nd, rfl⟩⟩
       refine ⟨_, rfl, ?_⟩
       refine hK.out _ _ ⟨(cB HB.out aH :), ⟨(cB HB.out aG :), ⟨(cB HB.out aF :), ⟨(cB HB.out aE :), ⟨(cB HB.out aD :), ⟨(cB HB.out a3 :), ⟨(cB HB.out a2 :), ⟨(cB HB.out aZ :), ⟨(cB HB.out aY :), ⟨(cB HB.out aX :), ⟨(cB HB.out bS :), ⟨(cB HB.out bR :), ⟨(cB HB.out bQ :), ⟨(cB HB.out bP :), (cB HB.out bO :)⟩⟩⟩⟩⟩⟩⟩⟩⟩⟩⟩⟩⟩⟩ (fun hHeld => ?_)
       clear hK K
       refine nB 41 ?_
       refine pA 26 42 ?_
       refine pA 27 43 ?_
       refine gh (ei HT_.out (Z16)) ?_
       try go_wp2
       go_ret
       exact ⟨Z1, Z0⟩
      rw [if_neg bT] at H
      have dH : decide (0 <= bE) = false := ba bT
      clear bT
      have H' := aM H
      clear H
      try go_wp2
      replace HB := aM (ac HB.out)
      have Y : 0 <= (s : Int) := dT (Z4)
      have Z : s < (l0.length : Int) := dT (Z4)
      obtain ⟨y, aI, aJ, aK, aL, bF, D, I, J, M, O, aN, aO, aP, aQ⟩ := em hr0.out s Y Z
      have aD := O
      have aE := M
      have aF := J
      have aG := I
      have aH := D
      cases bF
      replace D := cB HB.out D
      replace I := cB HB.out I
      replace J := cB HB.out J
      replace M := cB HB.out M
      replace O := cB HB.out O
      have aR := aM aO
      have bG := aM aN
      clear aO aN
      have aS := aM aQ
      have bH := aM aP
      clear aQ aP
      replace Y := bh Y
      replace Z := bh Z
      have aT : 0 <= (s : Int) := dT (Z4)
      have aU : s < (l0.length : Int) := dT (Z4)
      obtain ⟨bW, bI, bJ, bK, bL, bX, aA, aB, aC, U, X, bA, bB, bC, bD⟩ := em hr0.out s aT aU
      have aX := X
      have aY := U
      have aZ := aC
      have a2 := aB
      have a3 := aA
      obtain rfl : y = bW := (by injection bX)
      replace aA := cB HB.out aA
      replace aB := cB HB.out aB
      replace aC := cB HB.out aC
      replace U := cB HB.out U
      replace X := cB HB.out X
      have bY := aM bB
      have cS := aM bA
      clear bB bA
      have bZ := aM bD
      have cT := aM bC
      clear bD bC
      replace aT := bh aT
      replace aU := bh aU
      have bM : 0 <= (s : Int) := dT (Z4)
      have bN : s < (l0.length : Int) := dT (Z4)
      obtain ⟨cA, dI, dJ, dK, dL, cC, a7, a8, a9, aV, aW, b0, b1, b2, b6⟩ := em hr0.out s bM bN
      have bO := aW
      have bP := aV
      have bQ := a9
      have bR := a8
      have bS := a7
      obtain rfl : y = cA := (by injection cC)
      replace a7 := cB HB.out a7
      replace a8 := cB HB.out a8
      replace a9 := cB HB.out a9
      replace aV := cB HB.out aV
      replace aW := cB HB.out aW
      have cD := aM b1
      have dM := aM b0
      clear b1 b0
      have cG := aM b6
      have dN := aM b2
      clear b6 b2
      replace bM := bh bM
      replace bN := bh bN
      have ea_ := Option.some.inj (U.symm.trans aV)
      injection ea_ with ea_ en_ ec_
      subst ea_
      subst ec_
      clear en_
      have ea_ := Option.some.inj (X.symm.trans aW)
      injection ea_ with ea_ en_ ec_
      subst ea_
      subst ec_
      clear en_
      refine fe (n := 28) (S := fun w' => Qa5 (y.add ((s).toNat * 5)) (.string ((ax l0 s).f0)) (.int .i64 ((ax l0 s).f1)) (.int .i64 ((ax l0 s).f2)) (.slice aI ((ax l0 s).f3).length aJ) (.slice aK ((ax l0 s).f4).length aL) (Qa5 (y.add ((s).toNat * 5)) (.string ((ax l0 s).f0)) (.int .i64 ((ax l0 s).f1)) (.int .i64 ((ax l0 s).f2)) (.slice bI ((ax l0 s).f3).length bJ) (.slice bK ((ax l0 s).f4).length bL) (qa5 (y.add ((s).toNat * 5)) (.string ((ax l0 s).f0)) (.int .i64 ((ax l0 s).f1)) (.int .i64 ((ax l0 s).f2)) (.slice bI ((ax l0 s).f3).length bJ) (.slice bK ((ax l0 s).f4).length bL) w') w') w') (ds := []) #[false, false, false, false, false, false, false, false, false, false, false, false, false, false, false, false, false, false, false, false, false, false, false, false, false, false, false, false] (Z16) rfl rfl ⟨(cB HB.out aH :), ⟨(cB HB.out aG :), ⟨(cB HB.out aF :), ⟨(cB HB.out aE :), ⟨(cB HB.out aD :), ⟨(cB HB.out a3 :), ⟨(cB HB.out a2 :), ⟨(cB HB.out aZ :), ⟨(cB HB.out aY :), ⟨(cB HB.out aX :), ⟨(cB HB.out bS :), ⟨(cB HB.out bR :), ⟨(cB HB.out bQ :), ⟨(cB HB.out bP :), (cB HB.out bO :)⟩⟩⟩⟩⟩⟩⟩⟩⟩⟩⟩⟩⟩⟩ (fun hHeld => ?_); refine df cy.tab8 cy.bits8 (fun HT_ HW_ => ?_)
      generalize wr.drew = d0 at HB aR aS bY bZ cD cG D I J M O aA aB aC U X a7 a8 a9 aV aW hHeld ⊢
      refine pA 0 16 ?_
      refine pA 1 17 ?_
      refine pA 2 18 ?_
      refine tA 3 19 ?_
      refine oA 4 20 (fun K hK => ?_)
      refine fl func109 (Z16) rfl #[.agg #[.string ((ax l0 s).f0), .int .i64 ((ax l0 s).f1), .int .i64 ((ax l0 s).f2), .slice aI ((ax l0 s).f3).length aJ, .slice aK ((ax l0 s).f4).length aL]] (Z96) rfl rfl (Z2) ?_
      with_reducible refine (bw.calls k1 ((ax l0 s).f0) ((ax l0 s).f1) ((ax l0 s).f2) _ _ ((ax l0 s).f3) _ _ ((ax l0 s).f4) true _ ?Y1 ?Y2 ?Y3 ?Y4 A6.out).mono ?_
      (case Y1 => have h_ := Kd.C_below aR.out HB.out; exact tC)
      (case Y2 => exact bG.out)
      (case Y3 => have h_ := Kd.C_below aS.out HB.out; exact tC)
      (case Y4 => exact bH.out)
      rintro e d1 ⟨rfl, hb⟩
      refine ⟨_, rfl, ?_⟩
      replace HB := aM (ae (Z0) hb)
      (try clear hb)
      have cK : (s : Int) <= ((l0.length : Int) : Int) := dT (Z4)
      obtain ⟨i018, cY, _, dQ, _⟩ := info_parts info82
      have cZ : l0.length <= c0 := b7.out
      have dA : Kd.C k82 _ (some y) l0.length l0 := hr0.out
      have dR := cut_to (P := prog) 33 82 .i64 underlying33 cY (some y) l0.length c0 s (dT (Z4)) cK cZ
      have dB := Kd.C_take (m := (s : Int).toNat) dA (Z31)
      have cL : a6.length = (s : Int).toNat := (by rw [b9.out, List.length_take]; omega)
      rw [← b9.out] at dB
      rw [← cL] at dR
      have bU := aM dB
      have cJ := aM (show a6.length <= c0 from by omega)
      clear  dA cZ cY dQ
      have d2 := aM cL
      clear cL
      replace cK := bh cK
      refine hK.out _ _ ⟨(cB HB.out aH :), ⟨(cB HB.out aG :), ⟨(cB HB.out aF :), ⟨(cB HB.out aE :), ⟨(cB HB.out aD :), ⟨(cB HB.out a3 :), ⟨(cB HB.out a2 :), ⟨(cB HB.out aZ :), ⟨(cB HB.out aY :), ⟨(cB HB.out aX :), ⟨(cB HB.out bS :), ⟨(cB HB.out bR :), ⟨(cB HB.out bQ :), ⟨(cB HB.out bP :), (cB HB.out bO :)⟩⟩⟩⟩⟩⟩⟩⟩⟩⟩⟩⟩⟩⟩ (fun hHeld => ?_)
      clear hK K
      refine nB 20 ?_
      refine pA 5 21 ?_
      refine pA 6 22 ?_
      refine pA 7 23 ?_
      refine pA 8 24 ?_
      refine pA 9 25 ?_
      refine pA 10 26 ?_
      refine pA 12 28 ?_
      refine pA 13 29 ?_
      refine tA 11 27 ?_
      refine pA 14 30 ?_
      refine pA 15 31 ?_
      refine pA 16 32 ?_
      refine pA 17 33 ?_
      refine pA 18 34 ?_
      refine pA 19 35 ?_
      refine pA 20 36 ?_
      refine pA 21 37 ?_
      refine pA 22 38 ?_
      refine pA 23 39 ?_
      refine tA 24 40 ?_
      refine oA 25 41 (fun K hK => ?_)
      refine fl func76 (Z16) rfl #[.slice (some y) a6.length c0, .string ((ax l0 s).f0)] (Z96) rfl rfl (Z2) ?_
      with_reducible refine (dq.calls k1 _ _ a6 ((ax l0 s).f0) bE _ ?Y1 ?Y2 cR.out).mono ?_
      (case Y1 => have h_ := Kd.C_below bU.out HB.out; exact tC)
      (case Y2 => exact cJ.out)
      rintro e w' ⟨rfl, ⟨nd, rfl⟩⟩
      refine ⟨_, rfl, ?_⟩
      refine hK.out _ _ ⟨(cB HB.out aH :), ⟨(cB HB.out aG :), ⟨(cB HB.out aF :), ⟨(cB HB.out aE :), ⟨(cB HB.out aD :), ⟨(cB HB.out a3 :), ⟨(cB HB.out a2 :), ⟨(cB HB.out aZ :), ⟨(cB HB.out aY :), ⟨(cB HB.out aX :), ⟨(cB HB.out bS :), ⟨(cB HB.out bR :), ⟨(cB HB.out bQ :), ⟨(cB HB.out bP :), (cB HB.out bO :)⟩⟩⟩⟩⟩⟩⟩⟩⟩⟩⟩⟩⟩⟩ (fun hHeld => ?_)
      clear hK K
      refine nB 41 ?_
      refine pA 26 42 ?_
      refine pA 27 43 ?_
      refine gh (ei HT_.out (Z16)) ?_
      try go_wp2
      go_roundg k1
      case measure => have := HK1.out; omega
      case rel => exact ⟨(wrap64 (s + 1)), (Z3), H', ⟨Z85⟩, ⟨Z0⟩⟩
     rw [if_neg c8] at H
     have dF := bb c8
     have dG := bg c8
     obtain rfl := oI H
     try go_wp2
     replace HB := aM (ac HB.out)
     have Y : 0 <= (s : Int) := dT (Z4)
     have Z : s < (l0.length : Int) := dT (Z4)
     obtain ⟨y, aI, aJ, aK, aL, bF, D, I, J, M, O, aN, aO, aP, aQ⟩ := em hr0.out s Y Z
     have aD := O
     have aE := M
     have aF := J
     have aG := I
     have aH := D
     cases bF
     replace D := cB HB.out D
     replace I := cB HB.out I
     replace J := cB HB.out J
     replace M := cB HB.out M
     replace O := cB HB.out O
     have aR := aM aO
     have bG := aM aN
     clear aO aN
     have aS := aM aQ
     have bH := aM aP
     clear aQ aP
     replace Y := bh Y
     replace Z := bh Z
     have aT : 0 <= (s : Int) := dT (Z4)
     have aU : s < (l0.length : Int) := dT (Z4)
     obtain ⟨bW, bI, bJ, bK, bL, bX, aA, aB, aC, U, X, bA, bB, bC, bD⟩ := em hr0.out s aT aU
     have aX := X
     have aY := U
     have aZ := aC
     have a2 := aB
     have a3 := aA
     obtain rfl : y = bW := (by injection bX)
     replace aA := cB HB.out aA
     replace aB := cB HB.out aB
     replace aC := cB HB.out aC
     replace U := cB HB.out U
     replace X := cB HB.out X
     have bY := aM bB
     have cS := aM bA
     clear bB bA
     have bZ := aM bD
     have cT := aM bC
     clear bD bC
     replace aT := bh aT
     replace aU := bh aU
     refine fe (n := 28) (S := fun w' => Qa5 (y.add ((s).toNat * 5)) (.string ((ax l0 s).f0)) (.int .i64 ((ax l0 s).f1)) (.int .i64 ((ax l0 s).f2)) (.slice aI ((ax l0 s).f3).length aJ) (.slice aK ((ax l0 s).f4).length aL) (qa5 (y.add ((s).toNat * 5)) (.string ((ax l0 s).f0)) (.int .i64 ((ax l0 s).f1)) (.int .i64 ((ax l0 s).f2)) (.slice bI ((ax l0 s).f3).length bJ) (.slice bK ((ax l0 s).f4).length bL) w') w') (ds := []) #[false, false, false, false, false, false, false, false, false, false, false, false, false, false, false, false, false, false, false, false, false, false, false, false, false, false, false, false] (Z16) rfl rfl ⟨(cB HB.out aH :), ⟨(cB HB.out aG :), ⟨(cB HB.out aF :), ⟨(cB HB.out aE :), ⟨(cB HB.out aD :), ⟨(cB HB.out a3 :), ⟨(cB HB.out a2 :), ⟨(cB HB.out aZ :), ⟨(cB HB.out aY :), (cB HB.out aX :)⟩⟩⟩⟩⟩⟩⟩⟩⟩ (fun hHeld => ?_); refine df cy.tab8 cy.bits8 (fun HT_ HW_ => ?_)
     generalize wr.drew = d3 at HB aR aS bY bZ D I J M O aA aB aC U X hHeld ⊢
     refine pA 0 16 ?_
     refine pA 1 17 ?_
     refine pA 2 18 ?_
     refine tA 3 19 ?_
     refine oA 4 20 (fun K hK => ?_)
     refine fl func109 (Z16) rfl #[.agg #[.string ((ax l0 s).f0), .int .i64 ((ax l0 s).f1), .int .i64 ((ax l0 s).f2), .slice aI ((ax l0 s).f3).length aJ, .slice aK ((ax l0 s).f4).length aL]] (Z96) rfl rfl (Z2) ?_
     with_reducible refine (bw.calls k1 ((ax l0 s).f0) ((ax l0 s).f1) ((ax l0 s).f2) _ _ ((ax l0 s).f3) _ _ ((ax l0 s).f4) true _ ?Y1 ?Y2 ?Y3 ?Y4 A6.out).mono ?_
     (case Y1 => have h_ := Kd.C_below aR.out HB.out; exact tC)
     (case Y2 => exact bG.out)
     (case Y3 => have h_ := Kd.C_below aS.out HB.out; exact tC)
     (case Y4 => exact bH.out)
     rintro e d4 ⟨rfl, hb⟩
     refine ⟨_, rfl, ?_⟩
     replace HB := aM (ae (Z0) hb)
     (try clear hb)
     refine hK.out _ _ ⟨(cB HB.out aH :), ⟨(cB HB.out aG :), ⟨(cB HB.out aF :), ⟨(cB HB.out aE :), ⟨(cB HB.out aD :), ⟨(cB HB.out a3 :), ⟨(cB HB.out a2 :), ⟨(cB HB.out aZ :), ⟨(cB HB.out aY :), (cB HB.out aX :)⟩⟩⟩⟩⟩⟩⟩⟩⟩ (fun hHeld => ?_)
     clear hK K
     refine nB 20 ?_
     refine pA 5 21 ?_
     refine pA 6 22 ?_
     refine pA 7 23 ?_
     refine pA 8 24 ?_
     refine pA 9 25 ?_
     refine pA 10 26 ?_
     refine pA 12 28 ?_
     refine pA 13 29 ?_
     refine tA 11 27 ?_
     refine pA 14 30 ?_
     refine pA 15 31 ?_
     refine pA 16 32 ?_
     refine pU 17 33 ?_
     refine pU 18 34 ?_
     refine pU 19 35 ?_
     refine pU 20 36 ?_
     refine pU 21 37 ?_
     refine pU 22 38 ?_
     refine pU 23 39 ?_
     refine pU 24 40 ?_
     refine pU 25 41 ?_
     refine pU 26 42 ?_
     refine pA 27 43 ?_
     refine gh (ei HT_.out (Z16)) ?_
     try go_wp2
     go_ret
     exact ⟨Z1, Z0⟩
    replace c7 := be c7
    subst c7
    replace H := ifF H
    obtain rfl := oI H
    try go_wp2
    replace HB := aM (ac HB.out)
    have Y : 0 <= (s : Int) := dT (Z4)
    have Z : s < (l0.length : Int) := dT (Z4)
    obtain ⟨y, aI, aJ, aK, aL, bF, D, I, J, M, O, aN, aO, aP, aQ⟩ := em hr0.out s Y Z
    have aD := O
    have aE := M
    have aF := J
    have aG := I
    have aH := D
    cases bF
    replace D := cB HB.out D
    replace I := cB HB.out I
    replace J := cB HB.out J
    replace M := cB HB.out M
    replace O := cB HB.out O
    have aR := aM aO
    have bG := aM aN
    clear aO aN
    have aS := aM aQ
    have bH := aM aP
    clear aQ aP
    replace Y := bh Y
    replace Z := bh Z
    refine fe (n := 28) (S := fun w' => qa5 (y.add ((s).toNat * 5)) (.string ((ax l0 s).f0)) (.int .i64 ((ax l0 s).f1)) (.int .i64 ((ax l0 s).f2)) (.slice aI ((ax l0 s).f3).length aJ) (.slice aK ((ax l0 s).f4).length aL) w') (ds := []) #[false, false, false, false, false, false, false, false, false, false, false, false, false, false, false, false, false, false, false, false, false, false, false, false, false, false, false, false] (Z16) rfl rfl ⟨(cB HB.out aH :), ⟨(cB HB.out aG :), ⟨(cB HB.out aF :), ⟨(cB HB.out aE :), (cB HB.out aD :)⟩⟩⟩⟩ (fun hHeld => ?_); refine df cy.tab8 cy.bits8 (fun HT_ HW_ => ?_)
    generalize wr.drew = d5 at HB aR aS D I J M O hHeld ⊢
    refine pA 0 16 ?_
    refine pA 1 17 ?_
    refine pA 2 18 ?_
    refine tA 3 19 ?_
    refine oA 4 20 (fun K hK => ?_)
    refine fl func109 (Z16) rfl #[.agg #[.string ((ax l0 s).f0), .int .i64 ((ax l0 s).f1), .int .i64 ((ax l0 s).f2), .slice aI ((ax l0 s).f3).length aJ, .slice aK ((ax l0 s).f4).length aL]] (Z96) rfl rfl (Z2) ?_
    with_reducible refine (bw.calls k1 ((ax l0 s).f0) ((ax l0 s).f1) ((ax l0 s).f2) _ _ ((ax l0 s).f3) _ _ ((ax l0 s).f4) false _ ?Y1 ?Y2 ?Y3 ?Y4 A6.out).mono ?_
    (case Y1 => have h_ := Kd.C_below aR.out HB.out; exact tC)
    (case Y2 => exact bG.out)
    (case Y3 => have h_ := Kd.C_below aS.out HB.out; exact tC)
    (case Y4 => exact bH.out)
    rintro e d6 ⟨rfl, hb⟩
    refine ⟨_, rfl, ?_⟩
    replace HB := aM (ae (Z0) hb)
    (try clear hb)
    refine hK.out _ _ ⟨(cB HB.out aH :), ⟨(cB HB.out aG :), ⟨(cB HB.out aF :), ⟨(cB HB.out aE :), (cB HB.out aD :)⟩⟩⟩⟩ (fun hHeld => ?_)
    clear hK K
    refine nB 20 ?_
    refine pA 5 21 ?_
    refine pA 6 22 ?_
    refine pU 7 23 ?_
    refine pU 8 24 ?_
    refine pU 9 25 ?_
    refine pU 10 26 ?_
    refine pU 11 27 ?_
    refine pU 12 28 ?_
    refine pU 13 29 ?_
    refine pU 14 30 ?_
    refine pA 15 31 ?_
    refine pA 16 32 ?_
    refine pU 17 33 ?_
    refine pU 18 34 ?_
    refine pU 19 35 ?_
    refine pU 20 36 ?_
    refine pU 21 37 ?_
    refine pU 22 38 ?_
    refine pU 23 39 ?_
    refine pU 24 40 ?_
    refine pU 25 41 ?_
    refine pU 26 42 ?_
    refine pA 27 43 ?_
    refine gh (ei HT_.out (Z16)) ?_
    try go_wp2
    go_ret
    exact ⟨Z1, Z0⟩
   rw [if_neg c4] at H
   have dD := ba c4
   clear c4
   obtain rfl := oI H
   go_wp2
   go_ret
   exact ⟨Z1, Z0⟩
end Go.Proofs.YtifkmkiljpeaaadGreat.PFnExactCommit
