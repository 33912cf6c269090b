import Derived.Test.YtifkmkiljpeaaacGreatPFnExactWorldOKxt
set_option maxHeartbeats 40000000
set_option maxRecDepth 100000
namespace Go.Proofs.YtifkmkiljpeaaacGreat.PFnExactWorldOK
open Go.RowKit Go.Proofs.YtifkmkiljpeaaacGreatW.PrintWords Go.Proofs.YtifkmkiljpeaaacGreatW.PrintLast Go.Proofs.YtifkmkiljpeaaacGreatW.PrintMore Go.Proofs.YtifkmkiljpeaaacGreat.Mac Go.Proofs.Tryz
set_option linter.unusedVariables false
set_option linter.unusedSimpArgs false
def errW : Option Int → Value
 | none => .nilIface
 | some c => .iface 0 (.int .i64 c)
theorem errW_none : errW none = .nilIface := rfl
theorem errW_some (c : Int) : errW (some c) = .iface 0 (.int .i64 c) := rfl
theorem info3 : (prog.info? 3).map (fun i => (i.zero, i.size, i.bytes)) = some (some (.int .i64 0), 1, 8) := by kernel_rfl
theorem info9 : (prog.info? 9).map (fun i => (i.zero, i.size, i.bytes)) = some (some (.string ⟨#[]⟩), 1, 16) := by kernel_rfl
theorem info52 : (prog.info? 52).map (fun i => (i.zero, i.size, i.bytes)) = some (some (.agg #[(.int .i64 0), (.string ⟨#[]⟩), (.int .i64 0), (.string ⟨#[]⟩), (.bool false), (.slice none 0 0), (.string ⟨#[]⟩), (.int .i64 0), (.bool false)]), 9, 112) := by kernel_rfl
theorem info98 : (prog.info? 98).map (fun i => (i.zero, i.size, i.bytes)) = some (some (.agg #[(.string ⟨#[]⟩), (.int .i64 0), (.int .i64 0), (.slice none 0 0), (.slice none 0 0)]), 5, 80) := by kernel_rfl
theorem info109 : (prog.info? 109).map (fun i => (i.zero, i.size, i.bytes)) = some (some (.agg #[(.int .i64 0), (.int .i64 0), (.string ⟨#[]⟩)]), 3, 32) := by kernel_rfl
theorem info130 : (prog.info? 130).map (fun i => (i.zero, i.size, i.bytes)) = some (some (.agg #[(.string ⟨#[]⟩), (.string ⟨#[]⟩)]), 2, 32) := by kernel_rfl
structure S152 where
 f0 : Int
 f1 : Int
 f2 : ByteArray
def z152 : S152 := ⟨(0 : Int), (0 : Int), (⟨#[]⟩ : ByteArray)⟩
def k152 : Kd S152 := Kd.iso (Kd.pair (Kd.int .i64) (Kd.pair (Kd.int .i64) Kd.string)) (fun x : S152 => (x.f0, x.f1, x.f2))
theorem k152_open {w : World} {x : S152} {cs : List Value} (h : k152.K w x cs) : cs = [.int .i64 x.f0, .int .i64 x.f1, .string x.f2] := by
 obtain ⟨_, _, rfl, rfl, ⟨_, _, rfl, rfl, rfl⟩⟩ := h
 exact rfl
def rd_T152 (xs : List S152) (i : Int) : S152 := xs.getD i.toNat z152
theorem at_T152 {w : World} {A : Option Addr} {n : Nat} {xs : List S152} (h : Kd.C k152 w A n xs) (i : Int) (s : 0 ≤ i) (h1 : i < n) : ∃ ad , A = some ad ∧ w.cell? (ad.add (i.toNat * 3)) = some (.int .i64 (rd_T152 xs i).f0) ∧ w.cell? ⟨(ad.add (i.toNat * 3)).block, (ad.add (i.toNat * 3)).off + 1, none⟩ = some (.int .i64 (rd_T152 xs i).f1) ∧ w.cell? ⟨(ad.add (i.toNat * 3)).block, (ad.add (i.toNat * 3)).off + 2, none⟩ = some (.string (rd_T152 xs i).f2) := by
 obtain ⟨ad, c, e, _, hK, y⟩ := Kd.C_get h z152 i s h1
 have hc : ∀ j u, c[j]? = some u → w.cell? (ad.add (i.toNat * 3 + j)) = some u := y
 obtain rfl := k152_open hK
 exact ⟨ad, e, hc 0 _ rfl, Z116, Z124⟩
structure S91 where
 f0 : ByteArray
 f1 : Int
 f2 : Int
 f3 : (List S152)
 f4 : (List ByteArray)
def z91 : S91 := ⟨(⟨#[]⟩ : ByteArray), (0 : Int), (0 : Int), ([] : List S152), ([] : List ByteArray)⟩
def k91 : Kd S91 := Kd.iso (Kd.pair Kd.string (Kd.pair (Kd.int .i64) (Kd.pair (Kd.int .i64) (Kd.pair (Kd.slice 152 k152) (Kd.slice 9 Kd.string))))) (fun x : S91 => (x.f0, x.f1, x.f2, x.f3, x.f4))
theorem k91_open {w : World} {x : S91} {cs : List Value} (h : k91.K w x cs) : ∃ s c3 y c4, cs = [.string x.f0, .int .i64 x.f1, .int .i64 x.f2, .slice s x.f3.length c3, .slice y x.f4.length c4] ∧ x.f3.length ≤ c3 ∧ k152.C w s x.f3.length x.f3 ∧ x.f4.length ≤ c4 ∧ Kd.string.C w y x.f4.length x.f4 := by
 obtain ⟨_, _, rfl, rfl, ⟨_, _, rfl, rfl, ⟨_, _, rfl, rfl, ⟨_, _, rfl, ⟨s, c3, rfl, D, I⟩, ⟨y, c4, rfl, J, M⟩⟩⟩⟩⟩ := h
 exact ⟨s, c3, y, c4, rfl, D, I, J, M⟩
def rd_T91 (xs : List S91) (i : Int) : S91 := xs.getD i.toNat z91
theorem at_T91 {w : World} {A : Option Addr} {n : Nat} {xs : List S91} (h : Kd.C k91 w A n xs) (i : Int) (D : 0 ≤ i) (h1 : i < n) : ∃ ad s c3 y c4, A = some ad ∧ w.cell? (ad.add (i.toNat * 5)) = some (.string (rd_T91 xs i).f0) ∧ w.cell? ⟨(ad.add (i.toNat * 5)).block, (ad.add (i.toNat * 5)).off + 1, none⟩ = some (.int .i64 (rd_T91 xs i).f1) ∧ w.cell? ⟨(ad.add (i.toNat * 5)).block, (ad.add (i.toNat * 5)).off + 2, none⟩ = some (.int .i64 (rd_T91 xs i).f2) ∧ w.cell? ⟨(ad.add (i.toNat * 5)).block, (ad.add (i.toNat * 5)).off + 3, none⟩ = some (.slice s (rd_T91 xs i).f3.length c3) ∧ w.cell? ⟨(ad.add (i.toNat * 5)).block, (ad.add (i.toNat * 5)).off + 4, none⟩ = some (.slice y (rd_T91 xs i).f4.length c4) ∧ (rd_T91 xs i).f3.length ≤ c3 ∧ k152.C w s (rd_T91 xs i).f3.length (rd_T91 xs i).f3 ∧ (rd_T91 xs i).f4.length ≤ c4 ∧ Kd.string.C w y (rd_T91 xs i).f4.length (rd_T91 xs i).f4 := by
 obtain ⟨ad, c, e, _, hK, I⟩ := Kd.C_get h z91 i D h1
 have hc : ∀ j u, c[j]? = some u → w.cell? (ad.add (i.toNat * 5 + j)) = some u := I
 obtain ⟨s, c3, y, c4, rfl, J, M, O, U⟩ := k91_open hK
 exact ⟨ad, s, c3, y, c4, e, hc 0 _ rfl, Z116, Z124, Z175, Z200, J, M, O, U⟩
structure S63 where
 f0 : Int
 f1 : ByteArray
 f2 : Bool
 f3 : (List Int)
def z63 : S63 := ⟨(0 : Int), (⟨#[]⟩ : ByteArray), false, ([] : List Int)⟩
def k63 : Kd S63 := Kd.iso (Kd.pair (Kd.int .i64) (Kd.pair Kd.string (Kd.pair Kd.bool (Kd.slice 3 (Kd.int .i64))))) (fun x : S63 => (x.f0, x.f1, x.f2, x.f3))
theorem k63_open {w : World} {x : S63} {cs : List Value} (h : k63.K w x cs) : ∃ s c3, cs = [.int .i64 x.f0, .string x.f1, .bool x.f2, .slice s x.f3.length c3] ∧ x.f3.length ≤ c3 ∧ (Kd.int .i64).C w s x.f3.length x.f3 := by
 obtain ⟨_, _, rfl, rfl, ⟨_, _, rfl, rfl, ⟨_, _, rfl, rfl, ⟨s, c3, rfl, y, D⟩⟩⟩⟩ := h
 exact ⟨s, c3, rfl, y, D⟩
structure S64 where
 f0 : ByteArray
 f1 : Int
 f2 : Bool
def z64 : S64 := ⟨(⟨#[]⟩ : ByteArray), (0 : Int), false⟩
def k64 : Kd S64 := Kd.iso (Kd.pair Kd.string (Kd.pair (Kd.int .i64) Kd.bool)) (fun x : S64 => (x.f0, x.f1, x.f2))
theorem k64_open {w : World} {x : S64} {cs : List Value} (h : k64.K w x cs) : cs = [.string x.f0, .int .i64 x.f1, .bool x.f2] := by
 obtain ⟨_, _, rfl, rfl, ⟨_, _, rfl, rfl, rfl⟩⟩ := h
 exact rfl
structure S66 where
 f0 : Int
 f1 : ByteArray
 f2 : S63
 f3 : S64
def z66 : S66 := ⟨(0 : Int), (⟨#[]⟩ : ByteArray), z63, z64⟩
def k66 : Kd S66 := Kd.iso (Kd.pair (Kd.int .i64) (Kd.pair Kd.string (Kd.pair k63 k64))) (fun x : S66 => (x.f0, x.f1, x.f2, x.f3))
theorem k66_open {w : World} {x : S66} {cs : List Value} (h : k66.K w x cs) : ∃ s c5, cs = [.int .i64 x.f0, .string x.f1, .int .i64 x.f2.f0, .string x.f2.f1, .bool x.f2.f2, .slice s x.f2.f3.length c5, .string x.f3.f0, .int .i64 x.f3.f1, .bool x.f3.f2] ∧ x.f2.f3.length ≤ c5 ∧ (Kd.int .i64).C w s x.f2.f3.length x.f2.f3 := by
 obtain ⟨_, _, rfl, rfl, ⟨_, _, rfl, rfl, ⟨_, _, rfl, y, D⟩⟩⟩ := h
 obtain ⟨s, c5, rfl, I, J⟩ := k63_open y
 obtain rfl := k64_open D
 exact ⟨s, c5, rfl, I, J⟩
def rd_T66 (xs : List S66) (i : Int) : S66 := xs.getD i.toNat z66
theorem at_T66 {w : World} {A : Option Addr} {n : Nat} {xs : List S66} (h : Kd.C k66 w A n xs) (i : Int) (y : 0 ≤ i) (h1 : i < n) : ∃ ad s c5, A = some ad ∧ w.cell? (ad.add (i.toNat * 9)) = some (.int .i64 (rd_T66 xs i).f0) ∧ w.cell? ⟨(ad.add (i.toNat * 9)).block, (ad.add (i.toNat * 9)).off + 1, none⟩ = some (.string (rd_T66 xs i).f1) ∧ w.cell? ⟨(ad.add (i.toNat * 9)).block, (ad.add (i.toNat * 9)).off + 2, none⟩ = some (.int .i64 (rd_T66 xs i).f2.f0) ∧ w.cell? ⟨(ad.add (i.toNat * 9)).block, (ad.add (i.toNat * 9)).off + 3, none⟩ = some (.string (rd_T66 xs i).f2.f1) ∧ w.cell? ⟨(ad.add (i.toNat * 9)).block, (ad.add (i.toNat * 9)).off + 4, none⟩ = some (.bool (rd_T66 xs i).f2.f2) ∧ w.cell? ⟨(ad.add (i.toNat * 9)).block, (ad.add (i.toNat * 9)).off + 5, none⟩ = some (.slice s (rd_T66 xs i).f2.f3.length c5) ∧ w.cell? ⟨(ad.add (i.toNat * 9)).block, (ad.add (i.toNat * 9)).off + 6, none⟩ = some (.string (rd_T66 xs i).f3.f0) ∧ w.cell? ⟨(ad.add (i.toNat * 9)).block, (ad.add (i.toNat * 9)).off + 7, none⟩ = some (.int .i64 (rd_T66 xs i).f3.f1) ∧ w.cell? ⟨(ad.add (i.toNat * 9)).block, (ad.add (i.toNat * 9)).off + 8, none⟩ = some (.bool (rd_T66 xs i).f3.f2) ∧ (rd_T66 xs i).f2.f3.length ≤ c5 ∧ (Kd.int .i64).C w s (rd_T66 xs i).f2.f3.length (rd_T66 xs i).f2.f3 := by
 obtain ⟨ad, c, e, _, hK, D⟩ := Kd.C_get h z66 i y h1
 have hc : ∀ j u, c[j]? = some u → w.cell? (ad.add (i.toNat * 9 + j)) = some u := D
 obtain ⟨s, c5, rfl, I, J⟩ := k66_open hK
 exact ⟨ad, s, c5, e, hc 0 _ rfl, Z116, Z124, Z175, Z200, by rw [← add_field _ _ 5 (Z42)]; exact hc 5 _ rfl, by rw [← add_field _ _ 6 (Z42)]; exact hc 6 _ rfl, by rw [← add_field _ _ 7 (Z42)]; exact hc 7 _ rfl, by rw [← add_field _ _ 8 (Z42)]; exact hc 8 _ rfl, I, J⟩
structure S109 where
 f0 : Int
 f1 : Int
 f2 : ByteArray
def z109 : S109 := ⟨(0 : Int), (0 : Int), (⟨#[]⟩ : ByteArray)⟩
def k109 : Kd S109 := Kd.iso (Kd.pair (Kd.int .i64) (Kd.pair (Kd.int .i64) Kd.string)) (fun x : S109 => (x.f0, x.f1, x.f2))
theorem k109_open {w : World} {x : S109} {cs : List Value} (h : k109.K w x cs) : cs = [.int .i64 x.f0, .int .i64 x.f1, .string x.f2] := by
 obtain ⟨_, _, rfl, rfl, ⟨_, _, rfl, rfl, rfl⟩⟩ := h
 exact rfl
theorem k109_openM {w : World} {base : Nat} {ok : Nat → Prop} {x : S109} {cs : List Value} (h : k109.M w base ok x cs) : cs = [.int .i64 x.f0, .int .i64 x.f1, .string x.f2] := by
 obtain ⟨_, _, rfl, rfl, ⟨_, _, rfl, rfl, rfl⟩⟩ := h
 exact rfl
theorem k109_mkM (w : World) (base : Nat) (ok : Nat → Prop) (x : S109)  : k109.M w base ok x [.int .i64 x.f0, .int .i64 x.f1, .string x.f2] := ⟨[.int .i64 x.f0], [.int .i64 x.f1, .string x.f2], rfl, rfl, ⟨[.int .i64 x.f1], [.string x.f2], rfl, rfl, rfl⟩⟩
def rd_T109 (xs : List S109) (i : Int) : S109 := xs.getD i.toNat z109
theorem at_T109 {w : World} {A : Option Addr} {n : Nat} {xs : List S109} (h : Kd.C k109 w A n xs) (i : Int) (s : 0 ≤ i) (h1 : i < n) : ∃ ad , A = some ad ∧ w.cell? (ad.add (i.toNat * 3)) = some (.int .i64 (rd_T109 xs i).f0) ∧ w.cell? ⟨(ad.add (i.toNat * 3)).block, (ad.add (i.toNat * 3)).off + 1, none⟩ = some (.int .i64 (rd_T109 xs i).f1) ∧ w.cell? ⟨(ad.add (i.toNat * 3)).block, (ad.add (i.toNat * 3)).off + 2, none⟩ = some (.string (rd_T109 xs i).f2) := by
 obtain ⟨ad, c, e, _, hK, y⟩ := Kd.C_get h z109 i s h1
 have hc : ∀ j u, c[j]? = some u → w.cell? (ad.add (i.toNat * 3 + j)) = some u := y
 obtain rfl := k109_open hK
 exact ⟨ad, e, hc 0 _ rfl, Z116, Z124⟩
structure S98 where
 f0 : ByteArray
 f1 : Int
 f2 : Int
 f3 : (List S109)
 f4 : (List ByteArray)
def z98 : S98 := ⟨(⟨#[]⟩ : ByteArray), (0 : Int), (0 : Int), ([] : List S109), ([] : List ByteArray)⟩
def k98 : Kd S98 := Kd.iso (Kd.pair Kd.string (Kd.pair (Kd.int .i64) (Kd.pair (Kd.int .i64) (Kd.pair (Kd.slice 109 k109) (Kd.slice 9 Kd.string))))) (fun x : S98 => (x.f0, x.f1, x.f2, x.f3, x.f4))
theorem k98_open {w : World} {x : S98} {cs : List Value} (h : k98.K w x cs) : ∃ s c3 y c4, cs = [.string x.f0, .int .i64 x.f1, .int .i64 x.f2, .slice s x.f3.length c3, .slice y x.f4.length c4] ∧ x.f3.length ≤ c3 ∧ k109.C w s x.f3.length x.f3 ∧ x.f4.length ≤ c4 ∧ Kd.string.C w y x.f4.length x.f4 := by
 obtain ⟨_, _, rfl, rfl, ⟨_, _, rfl, rfl, ⟨_, _, rfl, rfl, ⟨_, _, rfl, ⟨s, c3, rfl, D, I⟩, ⟨y, c4, rfl, J, M⟩⟩⟩⟩⟩ := h
 exact ⟨s, c3, y, c4, rfl, D, I, J, M⟩
theorem k98_openM {w : World} {base : Nat} {ok : Nat → Prop} {x : S98} {cs : List Value} (h : k98.M w base ok x cs) : ∃ s y, cs = [.string x.f0, .int .i64 x.f1, .int .i64 x.f2, s, y] ∧ k109.R 109 w base ok s x.f3 ∧ Kd.string.R 9 w base ok y x.f4 := by
 obtain ⟨_, _, rfl, rfl, ⟨_, _, rfl, rfl, ⟨_, _, rfl, rfl, ⟨_, _, rfl, ⟨s, rfl, D⟩, ⟨y, rfl, I⟩⟩⟩⟩⟩ := h
 exact ⟨s, y, rfl, D, I⟩
theorem k98_mkM (w : World) (base : Nat) (ok : Nat → Prop) (x : S98) {s : Value} (D : k109.R 109 w base ok s x.f3) {y : Value} (I : Kd.string.R 9 w base ok y x.f4) : k98.M w base ok x [.string x.f0, .int .i64 x.f1, .int .i64 x.f2, s, y] := ⟨[.string x.f0], [.int .i64 x.f1, .int .i64 x.f2, s, y], rfl, rfl, ⟨[.int .i64 x.f1], [.int .i64 x.f2, s, y], rfl, rfl, ⟨[.int .i64 x.f2], [s, y], rfl, rfl, ⟨[s], [y], rfl, ⟨s, rfl, D⟩, ⟨y, rfl, I⟩⟩⟩⟩⟩
def rd_T98 (xs : List S98) (i : Int) : S98 := xs.getD i.toNat z98
theorem at_T98 {w : World} {A : Option Addr} {n : Nat} {xs : List S98} (h : Kd.C k98 w A n xs) (i : Int) (D : 0 ≤ i) (h1 : i < n) : ∃ ad s c3 y c4, A = some ad ∧ w.cell? (ad.add (i.toNat * 5)) = some (.string (rd_T98 xs i).f0) ∧ w.cell? ⟨(ad.add (i.toNat * 5)).block, (ad.add (i.toNat * 5)).off + 1, none⟩ = some (.int .i64 (rd_T98 xs i).f1) ∧ w.cell? ⟨(ad.add (i.toNat * 5)).block, (ad.add (i.toNat * 5)).off + 2, none⟩ = some (.int .i64 (rd_T98 xs i).f2) ∧ w.cell? ⟨(ad.add (i.toNat * 5)).block, (ad.add (i.toNat * 5)).off + 3, none⟩ = some (.slice s (rd_T98 xs i).f3.length c3) ∧ w.cell? ⟨(ad.add (i.toNat * 5)).block, (ad.add (i.toNat * 5)).off + 4, none⟩ = some (.slice y (rd_T98 xs i).f4.length c4) ∧ (rd_T98 xs i).f3.length ≤ c3 ∧ k109.C w s (rd_T98 xs i).f3.length (rd_T98 xs i).f3 ∧ (rd_T98 xs i).f4.length ≤ c4 ∧ Kd.string.C w y (rd_T98 xs i).f4.length (rd_T98 xs i).f4 := by
 obtain ⟨ad, c, e, _, hK, I⟩ := Kd.C_get h z98 i D h1
 have hc : ∀ j u, c[j]? = some u → w.cell? (ad.add (i.toNat * 5 + j)) = some u := I
 obtain ⟨s, c3, y, c4, rfl, J, M, O, U⟩ := k98_open hK
 exact ⟨ad, s, c3, y, c4, e, hc 0 _ rfl, Z116, Z124, Z175, Z200, J, M, O, U⟩
structure S130 where
 f0 : ByteArray
 f1 : ByteArray
def z130 : S130 := ⟨(⟨#[]⟩ : ByteArray), (⟨#[]⟩ : ByteArray)⟩
def k130 : Kd S130 := Kd.iso (Kd.pair Kd.string Kd.string) (fun x : S130 => (x.f0, x.f1))
theorem k130_open {w : World} {x : S130} {cs : List Value} (h : k130.K w x cs) : cs = [.string x.f0, .string x.f1] := by
 obtain ⟨_, _, rfl, rfl, rfl⟩ := h
 exact rfl
theorem k130_mkM (w : World) (base : Nat) (ok : Nat → Prop) (x : S130)  : k130.M w base ok x [.string x.f0, .string x.f1] := ⟨[.string x.f0], [.string x.f1], rfl, rfl, rfl⟩
def rd_T130 (xs : List S130) (i : Int) : S130 := xs.getD i.toNat z130
theorem at_T130 {w : World} {A : Option Addr} {n : Nat} {xs : List S130} (h : Kd.C k130 w A n xs) (i : Int) (s : 0 ≤ i) (h1 : i < n) : ∃ ad , A = some ad ∧ w.cell? (ad.add (i.toNat * 2)) = some (.string (rd_T130 xs i).f0) ∧ w.cell? ⟨(ad.add (i.toNat * 2)).block, (ad.add (i.toNat * 2)).off + 1, none⟩ = some (.string (rd_T130 xs i).f1) := by
 obtain ⟨ad, c, e, _, hK, y⟩ := Kd.C_get h z130 i s h1
 have hc : ∀ j u, c[j]? = some u → w.cell? (ad.add (i.toNat * 2 + j)) = some u := y
 obtain rfl := k130_open hK
 exact ⟨ad, e, hc 0 _ rfl, Z116⟩
structure S103 where
 f0 : Int
 f1 : Int
 f2 : Int
 f3 : Int
 f4 : ByteArray
 f5 : (List S130)
structure S48 where
 f0 : Int
 f1 : ByteArray
 f2 : Bool
 f3 : (List Int)
def z48 : S48 := ⟨(0 : Int), (⟨#[]⟩ : ByteArray), false, ([] : List Int)⟩
def k48 : Kd S48 := Kd.iso (Kd.pair (Kd.int .i64) (Kd.pair Kd.string (Kd.pair Kd.bool (Kd.slice 3 (Kd.int .i64))))) (fun x : S48 => (x.f0, x.f1, x.f2, x.f3))
theorem k48_open {w : World} {x : S48} {cs : List Value} (h : k48.K w x cs) : ∃ s c3, cs = [.int .i64 x.f0, .string x.f1, .bool x.f2, .slice s x.f3.length c3] ∧ x.f3.length ≤ c3 ∧ (Kd.int .i64).C w s x.f3.length x.f3 := by
 obtain ⟨_, _, rfl, rfl, ⟨_, _, rfl, rfl, ⟨_, _, rfl, rfl, ⟨s, c3, rfl, y, D⟩⟩⟩⟩ := h
 exact ⟨s, c3, rfl, y, D⟩
theorem k48_openM {w : World} {base : Nat} {ok : Nat → Prop} {x : S48} {cs : List Value} (h : k48.M w base ok x cs) : ∃ s, cs = [.int .i64 x.f0, .string x.f1, .bool x.f2, s] ∧ (Kd.int .i64).R 3 w base ok s x.f3 := by
 obtain ⟨_, _, rfl, rfl, ⟨_, _, rfl, rfl, ⟨_, _, rfl, rfl, ⟨s, rfl, y⟩⟩⟩⟩ := h
 exact ⟨s, rfl, y⟩
theorem k48_mkM (w : World) (base : Nat) (ok : Nat → Prop) (x : S48) {s : Value} (y : (Kd.int .i64).R 3 w base ok s x.f3) : k48.M w base ok x [.int .i64 x.f0, .string x.f1, .bool x.f2, s] := ⟨[.int .i64 x.f0], [.string x.f1, .bool x.f2, s], rfl, rfl, ⟨[.string x.f1], [.bool x.f2, s], rfl, rfl, ⟨[.bool x.f2], [s], rfl, rfl, ⟨s, rfl, y⟩⟩⟩⟩
structure S50 where
 f0 : ByteArray
 f1 : Int
 f2 : Bool
def z50 : S50 := ⟨(⟨#[]⟩ : ByteArray), (0 : Int), false⟩
def k50 : Kd S50 := Kd.iso (Kd.pair Kd.string (Kd.pair (Kd.int .i64) Kd.bool)) (fun x : S50 => (x.f0, x.f1, x.f2))
theorem k50_open {w : World} {x : S50} {cs : List Value} (h : k50.K w x cs) : cs = [.string x.f0, .int .i64 x.f1, .bool x.f2] := by
 obtain ⟨_, _, rfl, rfl, ⟨_, _, rfl, rfl, rfl⟩⟩ := h
 exact rfl
theorem k50_openM {w : World} {base : Nat} {ok : Nat → Prop} {x : S50} {cs : List Value} (h : k50.M w base ok x cs) : cs = [.string x.f0, .int .i64 x.f1, .bool x.f2] := by
 obtain ⟨_, _, rfl, rfl, ⟨_, _, rfl, rfl, rfl⟩⟩ := h
 exact rfl
theorem k50_mkM (w : World) (base : Nat) (ok : Nat → Prop) (x : S50)  : k50.M w base ok x [.string x.f0, .int .i64 x.f1, .bool x.f2] := ⟨[.string x.f0], [.int .i64 x.f1, .bool x.f2], rfl, rfl, ⟨[.int .i64 x.f1], [.bool x.f2], rfl, rfl, rfl⟩⟩
structure S52 where
 f0 : Int
 f1 : ByteArray
 f2 : S48
 f3 : S50
def z52 : S52 := ⟨(0 : Int), (⟨#[]⟩ : ByteArray), z48, z50⟩
def k52 : Kd S52 := Kd.iso (Kd.pair (Kd.int .i64) (Kd.pair Kd.string (Kd.pair k48 k50))) (fun x : S52 => (x.f0, x.f1, x.f2, x.f3))
theorem k52_open {w : World} {x : S52} {cs : List Value} (h : k52.K w x cs) : ∃ s c5, cs = [.int .i64 x.f0, .string x.f1, .int .i64 x.f2.f0, .string x.f2.f1, .bool x.f2.f2, .slice s x.f2.f3.length c5, .string x.f3.f0, .int .i64 x.f3.f1, .bool x.f3.f2] ∧ x.f2.f3.length ≤ c5 ∧ (Kd.int .i64).C w s x.f2.f3.length x.f2.f3 := by
 obtain ⟨_, _, rfl, rfl, ⟨_, _, rfl, rfl, ⟨_, _, rfl, y, D⟩⟩⟩ := h
 obtain ⟨s, c5, rfl, I, J⟩ := k48_open y
 obtain rfl := k50_open D
 exact ⟨s, c5, rfl, I, J⟩
theorem k52_openM {w : World} {base : Nat} {ok : Nat → Prop} {x : S52} {cs : List Value} (h : k52.M w base ok x cs) : ∃ s, cs = [.int .i64 x.f0, .string x.f1, .int .i64 x.f2.f0, .string x.f2.f1, .bool x.f2.f2, s, .string x.f3.f0, .int .i64 x.f3.f1, .bool x.f3.f2] ∧ (Kd.int .i64).R 3 w base ok s x.f2.f3 := by
 obtain ⟨_, _, rfl, rfl, ⟨_, _, rfl, rfl, ⟨_, _, rfl, y, D⟩⟩⟩ := h
 obtain ⟨s, rfl, I⟩ := k48_openM y
 obtain rfl := k50_openM D
 exact ⟨s, rfl, I⟩
theorem k52_mkM (w : World) (base : Nat) (ok : Nat → Prop) (x : S52) {s : Value} (y : (Kd.int .i64).R 3 w base ok s x.f2.f3) : k52.M w base ok x [.int .i64 x.f0, .string x.f1, .int .i64 x.f2.f0, .string x.f2.f1, .bool x.f2.f2, s, .string x.f3.f0, .int .i64 x.f3.f1, .bool x.f3.f2] := ⟨[.int .i64 x.f0], [.string x.f1, .int .i64 x.f2.f0, .string x.f2.f1, .bool x.f2.f2, s, .string x.f3.f0, .int .i64 x.f3.f1, .bool x.f3.f2], rfl, rfl, ⟨[.string x.f1], [.int .i64 x.f2.f0, .string x.f2.f1, .bool x.f2.f2, s, .string x.f3.f0, .int .i64 x.f3.f1, .bool x.f3.f2], rfl, rfl, ⟨[.int .i64 x.f2.f0, .string x.f2.f1, .bool x.f2.f2, s], [.string x.f3.f0, .int .i64 x.f3.f1, .bool x.f3.f2], rfl, (k48_mkM w base ok x.f2 y), (k50_mkM w base ok x.f3 )⟩⟩⟩
def rd_T52 (xs : List S52) (i : Int) : S52 := xs.getD i.toNat z52
theorem at_T52 {w : World} {A : Option Addr} {n : Nat} {xs : List S52} (h : Kd.C k52 w A n xs) (i : Int) (y : 0 ≤ i) (h1 : i < n) : ∃ ad s c5, A = some ad ∧ w.cell? (ad.add (i.toNat * 9)) = some (.int .i64 (rd_T52 xs i).f0) ∧ w.cell? ⟨(ad.add (i.toNat * 9)).block, (ad.add (i.toNat * 9)).off + 1, none⟩ = some (.string (rd_T52 xs i).f1) ∧ w.cell? ⟨(ad.add (i.toNat * 9)).block, (ad.add (i.toNat * 9)).off + 2, none⟩ = some (.int .i64 (rd_T52 xs i).f2.f0) ∧ w.cell? ⟨(ad.add (i.toNat * 9)).block, (ad.add (i.toNat * 9)).off + 3, none⟩ = some (.string (rd_T52 xs i).f2.f1) ∧ w.cell? ⟨(ad.add (i.toNat * 9)).block, (ad.add (i.toNat * 9)).off + 4, none⟩ = some (.bool (rd_T52 xs i).f2.f2) ∧ w.cell? ⟨(ad.add (i.toNat * 9)).block, (ad.add (i.toNat * 9)).off + 5, none⟩ = some (.slice s (rd_T52 xs i).f2.f3.length c5) ∧ w.cell? ⟨(ad.add (i.toNat * 9)).block, (ad.add (i.toNat * 9)).off + 6, none⟩ = some (.string (rd_T52 xs i).f3.f0) ∧ w.cell? ⟨(ad.add (i.toNat * 9)).block, (ad.add (i.toNat * 9)).off + 7, none⟩ = some (.int .i64 (rd_T52 xs i).f3.f1) ∧ w.cell? ⟨(ad.add (i.toNat * 9)).block, (ad.add (i.toNat * 9)).off + 8, none⟩ = some (.bool (rd_T52 xs i).f3.f2) ∧ (rd_T52 xs i).f2.f3.length ≤ c5 ∧ (Kd.int .i64).C w s (rd_T52 xs i).f2.f3.length (rd_T52 xs i).f2.f3 := by
 obtain ⟨ad, c, e, _, hK, D⟩ := Kd.C_get h z52 i y h1
 have hc : ∀ j u, c[j]? = some u → w.cell? (ad.add (i.toNat * 9 + j)) = some u := D
 obtain ⟨s, c5, rfl, I, J⟩ := k52_open hK
 exact ⟨ad, s, c5, e, hc 0 _ rfl, Z116, Z124, Z175, Z200, by rw [← add_field _ _ 5 (Z42)]; exact hc 5 _ rfl, by rw [← add_field _ _ 6 (Z42)]; exact hc 6 _ rfl, by rw [← add_field _ _ 7 (Z42)]; exact hc 7 _ rfl, by rw [← add_field _ _ 8 (Z42)]; exact hc 8 _ rfl, I, J⟩
structure S32 where
 f0 : Int
 f1 : ByteArray
 f2 : Int
structure S35 where
 f0 : S32
 f1 : (List S98)
structure S38 where
 f0 : S35
 f1 : (List S52)
theorem eqA50 (d : Nat) (w : World) (x0 s : ByteArray) (x1 y : Int) (x2 D : Bool) :
  (Op.equalIn (d + 2) 50 (.agg #[.string x0, .int .i64 x1, .bool x2]) (.agg #[.string s, .int .i64 y, .bool D])).run prog w = .ok (x0.toList == s.toList && (x1 == y && (x2 == D))) w := by
 refine eqA_of underlying50 (Z18) ?_
 refine eqf_cons (Z117) (by go_simp; rfl) (by go_simp; rfl) (by go_simp) ?_
 refine eqf_cons (Z117) (by go_simp; rfl) (by go_simp; rfl) (by go_simp) ?_
 exact eqf_last (Z117) (by go_simp; rfl) (by go_simp; rfl) (by go_simp)
theorem eqA109 (d : Nat) (w : World) (x0 s : Int) (x1 y : Int) (x2 D : ByteArray) :
  (Op.equalIn (d + 2) 109 (.agg #[.int .i64 x0, .int .i64 x1, .string x2]) (.agg #[.int .i64 s, .int .i64 y, .string D])).run prog w = .ok (x0 == s && (x1 == y && (x2.toList == D.toList))) w := by
 refine eqA_of underlying109 (Z18) ?_
 refine eqf_cons (Z117) (by go_simp; rfl) (by go_simp; rfl) (by go_simp) ?_
 refine eqf_cons (Z117) (by go_simp; rfl) (by go_simp; rfl) (by go_simp) ?_
 exact eqf_last (Z117) (by go_simp; rfl) (by go_simp; rfl) (by go_simp)
def laws_szLog.f (y : Int) (s : ByteArray) (D : Int) (a1 : Int) : Option (Int) := if (wrap64 (a1 - (s.size : Int))) < 0 then (some (-1)) else (some (wrap64 (a1 - (s.size : Int))))
theorem laws_szLog.calls (y : Int) (s : ByteArray) (D : Int) (a1 : Int) (r : Int) (w : World) (h : laws_szLog.f y s D a1 = some r) :
  Calls prog 21 #[.agg #[.int .i64 y, .string s, .int .i64 D], .int .i64 a1] w fun e w' => e = .returned (.int .i64 r) ∧ Below w.heap.size w w' := by
 have U := underlying23
 have HB := aM (Below.refl w.heap.size w)
 have H := h
 clear h
 unfold laws_szLog.f at H
 by_cases c3 : (wrap64 (a1 - (s.size : Int))) < 0
 ·rw [if_pos c3] at H
  have J := decide_eq_true c3
  clear c3
  obtain rfl := oI H
  go_enter func21, ntmps21
  go_wp2_with (first | ((with_reducible refine gD 2 ?_); refine bxF w 2 #[.int .i64 y, .string s, .int .i64 D] 23 (Z0) ?_; intro M hg w4 I O GE101 HB hb; clear hb hg; refine bD3 I ?_; intros))
  go_ret
  exact ⟨Z1, Z196⟩
 ·rw [if_neg c3] at H
  have J := decide_eq_false c3
  clear c3
  obtain rfl := oI H
  go_enter func21, ntmps21
  go_wp2_with (first | ((with_reducible refine gD 2 ?_); refine bxF w 2 #[.int .i64 y, .string s, .int .i64 D] 23 (Z0) ?_; intro M hg w6 I O GE101 HB hb; clear hb hg; refine bD3 I ?_; intros))
  go_ret
  exact ⟨Z1, Z196⟩
def laws_szStored.f (y : Int) (D : Int) (s : ByteArray) (a1 : Int) : Option (Int) := if (wrap64 (a1 - (s.size : Int))) < 0 then (some (-1)) else (some (wrap64 (a1 - (s.size : Int))))
theorem laws_szStored.calls (y : Int) (D : Int) (s : ByteArray) (a1 : Int) (r : Int) (w : World) (h : laws_szStored.f y D s a1 = some r) :
  Calls prog 113 #[.agg #[.int .i64 y, .int .i64 D, .string s], .int .i64 a1] w fun e w' => e = .returned (.int .i64 r) ∧ Below w.heap.size w w' := by
 have U := underlying152
 have HB := aM (Below.refl w.heap.size w)
 have H := h
 clear h
 unfold laws_szStored.f at H
 by_cases c3 : (wrap64 (a1 - (s.size : Int))) < 0
 ·rw [if_pos c3] at H
  have J := decide_eq_true c3
  clear c3
  obtain rfl := oI H
  go_enter func113, ntmps113
  go_wp2_with (first | ((with_reducible refine gD 2 ?_); refine bxF w 2 #[.int .i64 y, .int .i64 D, .string s] 152 (Z0) ?_; intro M hg w4 I O GE102 HB hb; clear hb hg; refine bD3 I ?_; intros))
  go_ret
  exact ⟨Z1, Z197⟩
 ·rw [if_neg c3] at H
  have J := decide_eq_false c3
  clear c3
  obtain rfl := oI H
  go_enter func113, ntmps113
  go_wp2_with (first | ((with_reducible refine gD 2 ?_); refine bxF w 2 #[.int .i64 y, .int .i64 D, .string s] 152 (Z0) ?_; intro M hg w6 I O GE102 HB hb; clear hb hg; refine bD3 I ?_; intros))
  go_ret
  exact ⟨Z1, Z197⟩
def laws_szStoredS.l0 : Nat → List (S152) → Int → Int → Option (Int)
 | 0, _, _, _ => none
 | k + 1, x0, x1, x5 => if x5 < (x0.length : Int) then (if 0 ≤ x5 then ((laws_szStored.f ((rd_T152 x0 x5).f0) ((rd_T152 x0 x5).f1) ((rd_T152 x0 x5).f2) x1).bind fun s => (if s < 0 then (some (-1)) else (laws_szStoredS.l0 k x0 s (wrap64 (x5 + 1))))) else (none)) else (some x1)
def laws_szStoredS.f (k : Nat) (l0 : List (S152)) (a1 : Int) : Option (Int) := if (wrap64 (a1 - (l0.length : Int))) < 0 then (some (-1)) else (laws_szStoredS.l0 k l0 (wrap64 (a1 - (l0.length : Int))) 0)
theorem laws_szStoredS.calls (k : Nat) (X : Option Addr) (c0 : Nat) (l0 : List (S152)) (a1 : Int) (r : Int) (w : World) (hr0 : Kd.C k152 w X l0.length l0) (Y : l0.length ≤ c0) (h : laws_szStoredS.f k l0 a1 = some r) :
  Calls prog 79 #[.slice X l0.length c0, .int .i64 a1] w fun e w' => e = .returned (.int .i64 r) ∧ Below w.heap.size w w' := by
 have aI := underlying152
 replace hr0 := aM hr0
 replace Y := aM Y
 have HB := aM (Below.refl w.heap.size w)
 have H := h
 clear h
 unfold laws_szStoredS.f at H
 by_cases c3 : (wrap64 (a1 - (l0.length : Int))) < 0
 ·rw [if_pos c3] at H
  have Z := decide_eq_true c3
  clear c3
  obtain rfl := oI H
  go_enter func79, ntmps79
  go_wp2
  go_ret
  exact ⟨Z1, Z0⟩
 ·rw [if_neg c3] at H
  have Z := decide_eq_false c3
  clear c3
  have H' := aM H
  clear H
  go_enter func79, ntmps79
  go_wp2
  go_loopg [1, 5] k (fun kq v1 v5 w' => ∃ (s : Int) (x5_1 : Int), v1 = .int .i64 s ∧ v5 = .int .i64 x5_1 ∧ Aside0 (laws_szStoredS.l0 kq l0 s x5_1 = some r) ∧ Aside0 (kq ≤ k) ∧ Aside0 (Below w.heap.size w w'))
  case atStart => exact ⟨(wrap64 (a1 - (l0.length : Int))), (0), (Z3), (Z3), H', ⟨Nat.le_refl _⟩, ⟨Z0⟩⟩
  case round =>
   clear H'
   (try clear c3); (try clear Z)
   obtain ⟨s, x5_1, rfl, rfl, HA, HK1, HB⟩ := hrel
   cases gk with
   | zero => exact absurd HA.out (by simp [laws_szStoredS.l0])
   | succ k1 =>
    have H := HA.out
    clear HA
    simp only [laws_szStoredS.l0] at H
    by_cases c4 : x5_1 < (l0.length : Int)
    ·rw [if_pos c4] at H
     have aE := decide_eq_true c4
     clear c4
     obtain ⟨c5, H⟩ := ifS H
     have aJ := decide_eq_true c5
     clear c5
     obtain ⟨O, A6, H⟩ := bindA H
     try dsimp only at H
     by_cases c7 : O < 0
     ·rw [if_pos c7] at H
      have aF := decide_eq_true c7
      clear c7
      obtain rfl := oI H
      have y : 0 ≤ (x5_1 : Int) := of_decide_eq_true (Z4)
      have D : x5_1 < (l0.length : Int) := of_decide_eq_true (Z4)
      obtain ⟨aG, U, I, J, M⟩ := at_T152 hr0.out x5_1 y D
      cases U
      replace I := cB HB.out I
      replace J := cB HB.out J
      replace M := cB HB.out M
      replace y := eq_true y
      replace D := eq_true D
      go_wp2_with (first | ((with_reducible refine gC 113 ?_); refine gL 23 func113 #[.agg #[.int .i64 ((rd_T152 l0 x5_1).f0), .int .i64 ((rd_T152 l0 x5_1).f1), .string ((rd_T152 l0 x5_1).f2)], .int .i64 s] ?_; (with_reducible refine (laws_szStored.calls ((rd_T152 l0 x5_1).f0) ((rd_T152 l0 x5_1).f1) ((rd_T152 l0 x5_1).f2) s O _ A6.out).mono ?_); rintro e w8 ⟨rfl, hb⟩; refine ⟨_, rfl, ?_⟩; replace HB := aM (below_step (Z0) hb); (try clear hb); (try clear aH); (try clear hk); (try clear hi)))
      go_ret
      exact ⟨Z1, Z0⟩
     ·rw [if_neg c7] at H
      have aF := decide_eq_false c7
      clear c7
      have H' := aM H
      clear H
      have y : 0 ≤ (x5_1 : Int) := of_decide_eq_true (Z4)
      have D : x5_1 < (l0.length : Int) := of_decide_eq_true (Z4)
      obtain ⟨aG, U, I, J, M⟩ := at_T152 hr0.out x5_1 y D
      cases U
      replace I := cB HB.out I
      replace J := cB HB.out J
      replace M := cB HB.out M
      replace y := eq_true y
      replace D := eq_true D
      go_wp2_with (first | ((with_reducible refine gC 113 ?_); refine gL 23 func113 #[.agg #[.int .i64 ((rd_T152 l0 x5_1).f0), .int .i64 ((rd_T152 l0 x5_1).f1), .string ((rd_T152 l0 x5_1).f2)], .int .i64 s] ?_; (with_reducible refine (laws_szStored.calls ((rd_T152 l0 x5_1).f0) ((rd_T152 l0 x5_1).f1) ((rd_T152 l0 x5_1).f2) s O _ A6.out).mono ?_); rintro e w9 ⟨rfl, hb⟩; refine ⟨_, rfl, ?_⟩; replace HB := aM (below_step (Z0) hb); (try clear hb); (try clear aH); (try clear hk); (try clear hi)))
      go_roundg k1
      case measure => have := HK1.out; omega
      case rel => exact ⟨(O), (wrap64 (x5_1 + 1)), (Z3), (Z3), H', ⟨Z125⟩, ⟨Z0⟩⟩
    ·rw [if_neg c4] at H
     have aE := decide_eq_false c4
     clear c4
     obtain rfl := oI H
     go_wp2
     go_ret
     exact ⟨Z1, Z0⟩
def laws_szStringS.l0 : Nat → List ByteArray → Int → Int → Option (Int)
 | 0, _, _, _ => none
 | k + 1, x0, x1, x5 => if x5 < (x0.length : Int) then (if 0 ≤ x5 then (if (wrap64 (x1 - ((rdOf ByteArray.empty x0 x5).size : Int))) < 0 then (some (-1)) else (laws_szStringS.l0 k x0 (wrap64 (x1 - ((rdOf ByteArray.empty x0 x5).size : Int))) (wrap64 (x5 + 1)))) else (none)) else (some x1)
def laws_szStringS.f (k : Nat) (l0 : List ByteArray) (a1 : Int) : Option (Int) := if (wrap64 (a1 - (l0.length : Int))) < 0 then (some (-1)) else (laws_szStringS.l0 k l0 (wrap64 (a1 - (l0.length : Int))) 0)
theorem laws_szStringS.calls (k : Nat) (J : Option Addr) (c0 : Nat) (l0 : List ByteArray) (a1 : Int) (r : Int) (w : World) (hr0 : Kd.C Kd.string w J l0.length l0) (M : l0.length ≤ c0) (h : laws_szStringS.f k l0 a1 = some r) :
  Calls prog 80 #[.slice J l0.length c0, .int .i64 a1] w fun e w' => e = .returned (.int .i64 r) ∧ Drawn0 w w' := by
 replace hr0 := aM hr0
 replace M := aM M
 have H := h
 clear h
 unfold laws_szStringS.f at H
 by_cases c3 : (wrap64 (a1 - (l0.length : Int))) < 0
 ·rw [if_pos c3] at H
  have O := decide_eq_true c3
  clear c3
  obtain rfl := oI H
  go_enter func80, ntmps80
  go_wp2
  go_ret
  exact ⟨Z3, Z9⟩
 ·rw [if_neg c3] at H
  have O := decide_eq_false c3
  clear c3
  have H' := aM H
  clear H
  go_enter func80, ntmps80
  go_wp2
  go_loopg [1, 5] k (fun kq U X w' => ∃ (D : Int) (x5_1 : Int), U = .int .i64 D ∧ X = .int .i64 x5_1 ∧ Aside0 (laws_szStringS.l0 kq l0 D x5_1 = some r) ∧ Aside0 (kq ≤ k) ∧ Drawn0 w w')
  case atStart => exact ⟨(wrap64 (a1 - (l0.length : Int))), (0), (Z3), (Z3), H', ⟨Nat.le_refl _⟩, Z9⟩
  case round =>
   clear H'
   (try clear c3); (try clear O)
   obtain ⟨D, x5_1, rfl, rfl, HA, HK1, ⟨m1, rfl⟩⟩ := hrel
   cases gk with
   | zero => exact absurd HA.out (by simp [laws_szStringS.l0])
   | succ Y =>
    have H := HA.out
    clear HA
    simp only [laws_szStringS.l0] at H
    by_cases c4 : x5_1 < (l0.length : Int)
    ·rw [if_pos c4] at H
     have Z := decide_eq_true c4
     clear c4
     obtain ⟨c5, H⟩ := ifS H
     have aD := decide_eq_true c5
     clear c5
     by_cases c6 : (wrap64 (D - ((rdOf ByteArray.empty l0 x5_1).size : Int))) < 0
     ·rw [if_pos c6] at H
      have aA := decide_eq_true c6
      clear c6
      obtain rfl := oI H
      have s : 0 ≤ (x5_1 : Int) := of_decide_eq_true (Z4)
      have y : x5_1 < (l0.length : Int) := of_decide_eq_true (Z4)
      obtain ⟨aB, I, aC⟩ := Kd.at_string hr0.out x5_1 s y
      cases I
      replace s := eq_true s
      replace y := eq_true y
      go_wp2
      go_ret
      exact ⟨Z3, Z9⟩
     ·rw [if_neg c6] at H
      have aA := decide_eq_false c6
      clear c6
      have H' := aM H
      clear H
      have s : 0 ≤ (x5_1 : Int) := of_decide_eq_true (Z4)
      have y : x5_1 < (l0.length : Int) := of_decide_eq_true (Z4)
      obtain ⟨aB, I, aC⟩ := Kd.at_string hr0.out x5_1 s y
      cases I
      replace s := eq_true s
      replace y := eq_true y
      go_wp2
      go_roundg Y
      case measure => have := HK1.out; omega
      case rel => exact ⟨(wrap64 (D - ((rdOf ByteArray.empty l0 x5_1).size : Int))), (wrap64 (x5_1 + 1)), (Z3), (Z3), H', ⟨Z125⟩, Z9⟩
    ·rw [if_neg c4] at H
     have Z := decide_eq_false c4
     clear c4
     obtain rfl := oI H
     go_wp2
     go_ret
     exact ⟨Z3, Z9⟩
def laws_szBox.f (k : Nat) (s : ByteArray) (J : Int) (M : Int) (l0_3 : List (S152)) (I : List ByteArray) (a1 : Int) : Option (Int) := if (wrap64 (a1 - (s.size : Int))) < 0 then (some (-1)) else ((laws_szStoredS.f k l0_3 (wrap64 (a1 - (s.size : Int)))).bind fun y => (if y < 0 then (some (-1)) else ((laws_szStringS.f k I y).bind fun D => (if D < 0 then (some (-1)) else (some D)))))
theorem laws_szBox.calls (k : Nat) (s : ByteArray) (U : Int) (X : Int) (D : Option Addr) (I : Nat) (l0_3 : List (S152)) (J : Option Addr) (M : Nat) (y : List ByteArray) (a1 : Int) (r : Int) (w : World) (Z : Kd.C k152 w D l0_3.length l0_3) (aA : l0_3.length ≤ I) (aB : Kd.C Kd.string w J y.length y) (aC : y.length ≤ M) (h : laws_szBox.f k s U X l0_3 y a1 = some r) :
  Calls prog 47 #[.agg #[.string s, .int .i64 U, .int .i64 X, .slice D l0_3.length I, .slice J y.length M], .int .i64 a1] w fun e w' => e = .returned (.int .i64 r) ∧ Below w.heap.size w w' := by
 have aL := underlying91
 replace Z := aM Z
 replace aA := aM aA
 replace aB := aM aB
 replace aC := aM aC
 have HB := aM (Below.refl w.heap.size w)
 have H := h
 clear h
 unfold laws_szBox.f at H
 by_cases c3 : (wrap64 (a1 - (s.size : Int))) < 0
 ·rw [if_pos c3] at H
  have aI := decide_eq_true c3
  clear c3
  obtain rfl := oI H
  go_enter func47, ntmps47
  go_wp2_with (first | ((with_reducible refine gD 2 ?_); refine bxF w 2 #[.string s, .int .i64 U, .int .i64 X, .slice D l0_3.length I, .slice J y.length M] 91 (Z0) ?_; intro aD hg w4 BK106 aE GE106 HB hb; clear hb hg; refine bD5 BK106 ?_; intros))
  go_ret
  exact ⟨Z1, Z87⟩
 ·rw [if_neg c3] at H
  have aI := decide_eq_false c3
  clear c3
  obtain ⟨O, A6, H⟩ := bindA H
  try dsimp only at H
  by_cases c7 : O < 0
  ·rw [if_pos c7] at H
   have aJ := decide_eq_true c7
   clear c7
   obtain rfl := oI H
   go_enter func47, ntmps47
   go_wp2_with (first | ((with_reducible refine gD 2 ?_); refine bxF w 2 #[.string s, .int .i64 U, .int .i64 X, .slice D l0_3.length I, .slice J y.length M] 91 (Z0) ?_; intro aD hg w8 BK106 aE GE106 HB hb; clear hb hg; refine bD5 BK106 ?_; intros) | ((with_reducible refine gC 79 ?_); refine gL 15 func79 #[.slice D l0_3.length I, .int .i64 (wrap64 (a1 - (s.size : Int)))] ?_; (with_reducible refine (laws_szStoredS.calls k _ _ l0_3 (wrap64 (a1 - (s.size : Int))) O _ ?Y1 ?Y2 A6.out).mono ?_); (case Y1 => have h_ := Kd.C_below Z.out HB.out; exact tC); (case Y2 => exact aA.out); rintro e aO ⟨rfl, hb⟩; refine ⟨_, rfl, ?_⟩; replace BK106 := aM (kB BK106 (Z186) hb); replace HB := aM (below_step (Z87) hb); (try clear hb)))
   go_ret
   exact ⟨Z1, Z87⟩
  ·rw [if_neg c7] at H
   have aJ := decide_eq_false c7
   clear c7
   obtain ⟨aG, aH, H⟩ := bindA H
   try dsimp only at H
   by_cases Y : aG < 0
   ·rw [if_pos Y] at H
    have aK := decide_eq_true Y
    clear Y
    obtain rfl := oI H
    go_enter func47, ntmps47
    go_wp2_with (first | ((with_reducible refine gD 2 ?_); refine bxF w 2 #[.string s, .int .i64 U, .int .i64 X, .slice D l0_3.length I, .slice J y.length M] 91 (Z0) ?_; intro aD hg aP BK106 aE GE106 HB hb; clear hb hg; refine bD5 BK106 ?_; intros) | ((with_reducible refine gC 79 ?_); refine gL 15 func79 #[.slice D l0_3.length I, .int .i64 (wrap64 (a1 - (s.size : Int)))] ?_; (with_reducible refine (laws_szStoredS.calls k _ _ l0_3 (wrap64 (a1 - (s.size : Int))) O _ ?Y1 ?Y2 A6.out).mono ?_); (case Y1 => have h_ := Kd.C_below Z.out HB.out; exact tC); (case Y2 => exact aA.out); rintro e aQ ⟨rfl, hb⟩; refine ⟨_, rfl, ?_⟩; replace BK106 := aM (kB BK106 (Z186) hb); replace HB := aM (below_step (Z87) hb); (try clear hb); refine bD5 BK106 ?_; intros) | ((with_reducible refine gC 80 ?_); refine gL 21 func80 #[.slice J y.length M, .int .i64 O] ?_; (with_reducible refine (laws_szStringS.calls k _ _ y O aG _ ?Y1 ?Y2 aH.out).mono ?_); (case Y1 => have h_ := Kd.C_below aB.out HB.out; exact tC); (case Y2 => exact aC.out); rintro e w' ⟨rfl, ⟨nd, rfl⟩⟩; refine ⟨_, rfl, ?_⟩))
    go_ret
    exact ⟨Z1, Z87⟩
   ·rw [if_neg Y] at H
    have aK := decide_eq_false Y
    clear Y
    obtain rfl := oI H
    go_enter func47, ntmps47
    go_wp2_with (first | ((with_reducible refine gD 2 ?_); refine bxF w 2 #[.string s, .int .i64 U, .int .i64 X, .slice D l0_3.length I, .slice J y.length M] 91 (Z0) ?_; intro aD hg aR BK106 aE GE106 HB hb; clear hb hg; refine bD5 BK106 ?_; intros) | ((with_reducible refine gC 79 ?_); refine gL 15 func79 #[.slice D l0_3.length I, .int .i64 (wrap64 (a1 - (s.size : Int)))] ?_; (with_reducible refine (laws_szStoredS.calls k _ _ l0_3 (wrap64 (a1 - (s.size : Int))) O _ ?Y1 ?Y2 A6.out).mono ?_); (case Y1 => have h_ := Kd.C_below Z.out HB.out; exact tC); (case Y2 => exact aA.out); rintro e aS ⟨rfl, hb⟩; refine ⟨_, rfl, ?_⟩; replace BK106 := aM (kB BK106 (Z186) hb); replace HB := aM (below_step (Z87) hb); (try clear hb); refine bD5 BK106 ?_; intros) | ((with_reducible refine gC 80 ?_); refine gL 21 func80 #[.slice J y.length M, .int .i64 O] ?_; (with_reducible refine (laws_szStringS.calls k _ _ y O aG _ ?Y1 ?Y2 aH.out).mono ?_); (case Y1 => have h_ := Kd.C_below aB.out HB.out; exact tC); (case Y2 => exact aC.out); rintro e w' ⟨rfl, ⟨nd, rfl⟩⟩; refine ⟨_, rfl, ?_⟩))
    go_ret
    exact ⟨Z1, Z87⟩
def laws_szBoxS.l0 : Nat → List (S91) → Int → Int → Option (Int)
 | 0, _, _, _ => none
 | k + 1, x0, x1, x5 => if x5 < (x0.length : Int) then (if 0 ≤ x5 then ((laws_szBox.f k ((rd_T91 x0 x5).f0) ((rd_T91 x0 x5).f1) ((rd_T91 x0 x5).f2) ((rd_T91 x0 x5).f3) ((rd_T91 x0 x5).f4) x1).bind fun s => (if s < 0 then (some (-1)) else (laws_szBoxS.l0 k x0 s (wrap64 (x5 + 1))))) else (none)) else (some x1)
def laws_szBoxS.f (k : Nat) (l0 : List (S91)) (a1 : Int) : Option (Int) := if (wrap64 (a1 - (l0.length : Int))) < 0 then (some (-1)) else (laws_szBoxS.l0 k l0 (wrap64 (a1 - (l0.length : Int))) 0)
theorem laws_szBoxS.calls (k : Nat) (A0 : Option Addr) (c0 : Nat) (l0 : List (S91)) (a1 : Int) (r : Int) (w : World) (hr0 : Kd.C k91 w A0 l0.length l0) (aO : l0.length ≤ c0) (h : laws_szBoxS.f k l0 a1 = some r) :
  Calls prog 22 #[.slice A0 l0.length c0, .int .i64 a1] w fun e w' => e = .returned (.int .i64 r) ∧ Below w.heap.size w w' := by
 have aX := underlying91
 replace hr0 := aM hr0
 replace aO := aM aO
 have HB := aM (Below.refl w.heap.size w)
 have H := h
 clear h
 unfold laws_szBoxS.f at H
 by_cases c3 : (wrap64 (a1 - (l0.length : Int))) < 0
 ·rw [if_pos c3] at H
  have aP := decide_eq_true c3
  clear c3
  obtain rfl := oI H
  go_enter func22, ntmps22
  go_wp2
  go_ret
  exact ⟨Z1, Z0⟩
 ·rw [if_neg c3] at H
  have aP := decide_eq_false c3
  clear c3
  have H' := aM H
  clear H
  go_enter func22, ntmps22
  go_wp2
  go_loopg [1, 5] k (fun kq v1 v5 w' => ∃ (s : Int) (x5_1 : Int), v1 = .int .i64 s ∧ v5 = .int .i64 x5_1 ∧ Aside0 (laws_szBoxS.l0 kq l0 s x5_1 = some r) ∧ Aside0 (kq ≤ k) ∧ Aside0 (Below w.heap.size w w'))
  case atStart => exact ⟨(wrap64 (a1 - (l0.length : Int))), (0), (Z3), (Z3), H', ⟨Nat.le_refl _⟩, ⟨Z0⟩⟩
  case round =>
   clear H'
   (try clear c3); (try clear aP)
   obtain ⟨s, x5_1, rfl, rfl, HA, HK1, HB⟩ := hrel
   cases gk with
   | zero => exact absurd HA.out (by simp [laws_szBoxS.l0])
   | succ k1 =>
    have H := HA.out
    clear HA
    simp only [laws_szBoxS.l0] at H
    by_cases c4 : x5_1 < (l0.length : Int)
    ·rw [if_pos c4] at H
     have aT := decide_eq_true c4
     clear c4
     obtain ⟨c5, H⟩ := ifS H
     have aY := decide_eq_true c5
     clear c5
     obtain ⟨aB, A6, H⟩ := bindA H
     try dsimp only at H
     by_cases c7 : aB < 0
     ·rw [if_pos c7] at H
      have aU := decide_eq_true c7
      clear c7
      obtain rfl := oI H
      have y : 0 ≤ (x5_1 : Int) := of_decide_eq_true (Z4)
      have D : x5_1 < (l0.length : Int) := of_decide_eq_true (Z4)
      obtain ⟨aV, aD, aE, aF, aG, aH, I, J, M, O, U, X, Y, Z, aA⟩ := at_T91 hr0.out x5_1 y D
      cases aH
      replace I := cB HB.out I
      replace J := cB HB.out J
      replace M := cB HB.out M
      replace O := cB HB.out O
      replace U := cB HB.out U
      have aI := aM Y
      have aJ := aM X
      clear Y X
      have aK := aM aA
      have aL := aM Z
      clear aA Z
      replace y := eq_true y
      replace D := eq_true D
      go_wp2_with (first | ((with_reducible refine gC 47 ?_); refine gL 23 func47 #[.agg #[.string ((rd_T91 l0 x5_1).f0), .int .i64 ((rd_T91 l0 x5_1).f1), .int .i64 ((rd_T91 l0 x5_1).f2), .slice aD ((rd_T91 l0 x5_1).f3).length aE, .slice aF ((rd_T91 l0 x5_1).f4).length aG], .int .i64 s] ?_; (with_reducible refine (laws_szBox.calls k1 ((rd_T91 l0 x5_1).f0) ((rd_T91 l0 x5_1).f1) ((rd_T91 l0 x5_1).f2) _ _ ((rd_T91 l0 x5_1).f3) _ _ ((rd_T91 l0 x5_1).f4) s aB _ ?Y1 ?Y2 ?Y3 ?Y4 A6.out).mono ?_); (case Y1 => have h_ := Kd.C_below aI.out HB.out; exact tC); (case Y2 => exact aJ.out); (case Y3 => have h_ := Kd.C_below aK.out HB.out; exact tC); (case Y4 => exact aL.out); rintro e w8 ⟨rfl, hb⟩; refine ⟨_, rfl, ?_⟩; replace HB := aM (below_step (Z0) hb); (try clear hb); (try clear aW); (try clear hk); (try clear hi)))
      go_ret
      exact ⟨Z1, Z0⟩
     ·rw [if_neg c7] at H
      have aU := decide_eq_false c7
      clear c7
      have H' := aM H
      clear H
      have y : 0 ≤ (x5_1 : Int) := of_decide_eq_true (Z4)
      have D : x5_1 < (l0.length : Int) := of_decide_eq_true (Z4)
      obtain ⟨aV, aD, aE, aF, aG, aH, I, J, M, O, U, X, Y, Z, aA⟩ := at_T91 hr0.out x5_1 y D
      cases aH
      replace I := cB HB.out I
      replace J := cB HB.out J
      replace M := cB HB.out M
      replace O := cB HB.out O
      replace U := cB HB.out U
      have aI := aM Y
      have aJ := aM X
      clear Y X
      have aK := aM aA
      have aL := aM Z
      clear aA Z
      replace y := eq_true y
      replace D := eq_true D
      go_wp2_with (first | ((with_reducible refine gC 47 ?_); refine gL 23 func47 #[.agg #[.string ((rd_T91 l0 x5_1).f0), .int .i64 ((rd_T91 l0 x5_1).f1), .int .i64 ((rd_T91 l0 x5_1).f2), .slice aD ((rd_T91 l0 x5_1).f3).length aE, .slice aF ((rd_T91 l0 x5_1).f4).length aG], .int .i64 s] ?_; (with_reducible refine (laws_szBox.calls k1 ((rd_T91 l0 x5_1).f0) ((rd_T91 l0 x5_1).f1) ((rd_T91 l0 x5_1).f2) _ _ ((rd_T91 l0 x5_1).f3) _ _ ((rd_T91 l0 x5_1).f4) s aB _ ?Y1 ?Y2 ?Y3 ?Y4 A6.out).mono ?_); (case Y1 => have h_ := Kd.C_below aI.out HB.out; exact tC); (case Y2 => exact aJ.out); (case Y3 => have h_ := Kd.C_below aK.out HB.out; exact tC); (case Y4 => exact aL.out); rintro e w9 ⟨rfl, hb⟩; refine ⟨_, rfl, ?_⟩; replace HB := aM (below_step (Z0) hb); (try clear hb); (try clear aW); (try clear hk); (try clear hi)))
      go_roundg k1
      case measure => have := HK1.out; omega
      case rel => exact ⟨(aB), (wrap64 (x5_1 + 1)), (Z3), (Z3), H', ⟨Z125⟩, ⟨Z0⟩⟩
    ·rw [if_neg c4] at H
     have aT := decide_eq_false c4
     clear c4
     obtain rfl := oI H
     go_wp2
     go_ret
     exact ⟨Z1, Z0⟩
def laws_szEngine.f (k : Nat) (D : Int) (I : ByteArray) (J : Int) (l0_3 : List (S91)) (a1 : Int) : Option (Int) := (laws_szLog.f D I J a1).bind fun s => (if s < 0 then (some (-1)) else ((laws_szBoxS.f k l0_3 s).bind fun y => (if y < 0 then (some (-1)) else (some y))))
theorem laws_szEngine.calls (k : Nat) (s : Int) (y : ByteArray) (D : Int) (J : Option Addr) (M : Nat) (l0_3 : List (S91)) (a1 : Int) (r : Int) (w : World) (O : Kd.C k91 w J l0_3.length l0_3) (U : l0_3.length ≤ M) (h : laws_szEngine.f k s y D l0_3 a1 = some r) :
  Calls prog 9 #[.agg #[.int .i64 s, .string y, .int .i64 D, .slice J l0_3.length M], .int .i64 a1] w fun e w' => e = .returned (.int .i64 r) ∧ Below w.heap.size w w' := by
 have aE := underlying26
 have aF := underlying23
 replace O := aM O
 replace U := aM U
 have HB := aM (Below.refl w.heap.size w)
 have H := h
 clear h
 unfold laws_szEngine.f at H
 obtain ⟨I, X, H⟩ := bindA H
 try dsimp only at H
 by_cases c4 : I < 0
 ·rw [if_pos c4] at H
  have aC := decide_eq_true c4
  clear c4
  obtain rfl := oI H
  go_enter func9, ntmps9
  go_wp2_with (first | ((with_reducible refine gD 2 ?_); refine bxF w 2 #[.int .i64 s, .string y, .int .i64 D, .slice J l0_3.length M] 26 (Z0) ?_; intro Z hg w5 BK111 aA GE111 HB hb; clear hb hg; refine bD4 BK111 ?_; intros) | ((with_reducible refine gC 21 ?_); refine gL 8 func21 #[.agg #[.int .i64 s, .string y, .int .i64 D], .int .i64 a1] ?_; (with_reducible refine (laws_szLog.calls s y D a1 I _ X.out).mono ?_); rintro e w7 ⟨rfl, hb⟩; refine ⟨_, rfl, ?_⟩; replace BK111 := aM (kB BK111 (Z139) hb); replace HB := aM (below_step (Z80) hb); (try clear hb)))
  go_ret
  exact ⟨Z1, Z80⟩
 ·rw [if_neg c4] at H
  have aC := decide_eq_false c4
  clear c4
  obtain ⟨Y, A8, H⟩ := bindA H
  try dsimp only at H
  by_cases c9 : Y < 0
  ·rw [if_pos c9] at H
   have aD := decide_eq_true c9
   clear c9
   obtain rfl := oI H
   go_enter func9, ntmps9
   go_wp2_with (first | ((with_reducible refine gD 2 ?_); refine bxF w 2 #[.int .i64 s, .string y, .int .i64 D, .slice J l0_3.length M] 26 (Z0) ?_; intro Z hg aG BK111 aA GE111 HB hb; clear hb hg; refine bD4 BK111 ?_; intros) | ((with_reducible refine gC 21 ?_); refine gL 8 func21 #[.agg #[.int .i64 s, .string y, .int .i64 D], .int .i64 a1] ?_; (with_reducible refine (laws_szLog.calls s y D a1 I _ X.out).mono ?_); rintro e aH ⟨rfl, hb⟩; refine ⟨_, rfl, ?_⟩; replace BK111 := aM (kB BK111 (Z139) hb); replace HB := aM (below_step (Z80) hb); (try clear hb); refine bD4 BK111 ?_; intros) | ((with_reducible refine gC 22 ?_); refine gL 14 func22 #[.slice J l0_3.length M, .int .i64 I] ?_; (with_reducible refine (laws_szBoxS.calls k _ _ l0_3 I Y _ ?Y1 ?Y2 A8.out).mono ?_); (case Y1 => have h_ := Kd.C_below O.out HB.out; exact tC); (case Y2 => exact U.out); rintro e aI ⟨rfl, hb⟩; refine ⟨_, rfl, ?_⟩; replace BK111 := aM (kB BK111 (Z139) hb); replace HB := aM (below_step (Z80) hb); (try clear hb)))
   go_ret
   exact ⟨Z1, Z80⟩
  ·rw [if_neg c9] at H
   have aD := decide_eq_false c9
   clear c9
   obtain rfl := oI H
   go_enter func9, ntmps9
   go_wp2_with (first | ((with_reducible refine gD 2 ?_); refine bxF w 2 #[.int .i64 s, .string y, .int .i64 D, .slice J l0_3.length M] 26 (Z0) ?_; intro Z hg aJ BK111 aA GE111 HB hb; clear hb hg; refine bD4 BK111 ?_; intros) | ((with_reducible refine gC 21 ?_); refine gL 8 func21 #[.agg #[.int .i64 s, .string y, .int .i64 D], .int .i64 a1] ?_; (with_reducible refine (laws_szLog.calls s y D a1 I _ X.out).mono ?_); rintro e aK ⟨rfl, hb⟩; refine ⟨_, rfl, ?_⟩; replace BK111 := aM (kB BK111 (Z139) hb); replace HB := aM (below_step (Z80) hb); (try clear hb); refine bD4 BK111 ?_; intros) | ((with_reducible refine gC 22 ?_); refine gL 14 func22 #[.slice J l0_3.length M, .int .i64 I] ?_; (with_reducible refine (laws_szBoxS.calls k _ _ l0_3 I Y _ ?Y1 ?Y2 A8.out).mono ?_); (case Y1 => have h_ := Kd.C_below O.out HB.out; exact tC); (case Y2 => exact U.out); rintro e aL ⟨rfl, hb⟩; refine ⟨_, rfl, ?_⟩; replace BK111 := aM (kB BK111 (Z139) hb); replace HB := aM (below_step (Z80) hb); (try clear hb)))
   go_ret
   exact ⟨Z1, Z80⟩
def laws_szIntS.f (l0 : List Int) (a1 : Int) : Option (Int) := if (wrap64 (a1 - (l0.length : Int))) < 0 then (some (-1)) else (some (wrap64 (a1 - (l0.length : Int))))
theorem laws_szIntS.calls (s : Option Addr) (c0 : Nat) (l0 : List Int) (a1 : Int) (r : Int) (w : World) (hr0 : Kd.C (Kd.int .i64) w s l0.length l0) (y : l0.length ≤ c0) (h : laws_szIntS.f l0 a1 = some r) :
  Calls prog 81 #[.slice s l0.length c0, .int .i64 a1] w fun e w' => e = .returned (.int .i64 r) ∧ Drawn0 w w' := by
 replace hr0 := aM hr0
 replace y := aM y
 have H := h
 clear h
 unfold laws_szIntS.f at H
 by_cases c3 : (wrap64 (a1 - (l0.length : Int))) < 0
 ·rw [if_pos c3] at H
  have D := decide_eq_true c3
  clear c3
  obtain rfl := oI H
  go_enter func81, ntmps81
  go_wp2
  go_ret
  exact ⟨Z3, Z9⟩
 ·rw [if_neg c3] at H
  have D := decide_eq_false c3
  clear c3
  obtain rfl := oI H
  go_enter func81, ntmps81
  go_wp2
  go_ret
  exact ⟨Z3, Z9⟩
def laws_szImap.f (D : Int) (s : ByteArray) (I : Bool) (l0_3 : List Int) (a1 : Int) : Option (Int) := if (wrap64 (a1 - (s.size : Int))) < 0 then (some (-1)) else ((laws_szIntS.f l0_3 (wrap64 (a1 - (s.size : Int)))).bind fun y => (if y < 0 then (some (-1)) else (some y)))
theorem laws_szImap.calls (I : Int) (s : ByteArray) (J : Bool) (y : Option Addr) (D : Nat) (l0_3 : List Int) (a1 : Int) (r : Int) (w : World) (O : Kd.C (Kd.int .i64) w y l0_3.length l0_3) (U : l0_3.length ≤ D) (h : laws_szImap.f I s J l0_3 a1 = some r) :
  Calls prog 48 #[.agg #[.int .i64 I, .string s, .bool J, .slice y l0_3.length D], .int .i64 a1] w fun e w' => e = .returned (.int .i64 r) ∧ Below w.heap.size w w' := by
 have aD := underlying63
 replace O := aM O
 replace U := aM U
 have HB := aM (Below.refl w.heap.size w)
 have H := h
 clear h
 unfold laws_szImap.f at H
 by_cases c3 : (wrap64 (a1 - (s.size : Int))) < 0
 ·rw [if_pos c3] at H
  have aB := decide_eq_true c3
  clear c3
  obtain rfl := oI H
  go_enter func48, ntmps48
  go_wp2_with (first | ((with_reducible refine gD 2 ?_); refine bxF w 2 #[.int .i64 I, .string s, .bool J, .slice y l0_3.length D] 63 (Z0) ?_; intro Y hg w4 M Z GE114 HB hb; clear hb hg; refine bD4 M ?_; intros))
  go_ret
  exact ⟨Z1, Z162⟩
 ·rw [if_neg c3] at H
  have aB := decide_eq_false c3
  clear c3
  obtain ⟨X, A6, H⟩ := bindA H
  try dsimp only at H
  by_cases c7 : X < 0
  ·rw [if_pos c7] at H
   have aC := decide_eq_true c7
   clear c7
   obtain rfl := oI H
   go_enter func48, ntmps48
   go_wp2_with (first | ((with_reducible refine gD 2 ?_); refine bxF w 2 #[.int .i64 I, .string s, .bool J, .slice y l0_3.length D] 63 (Z0) ?_; intro Y hg w8 M Z GE114 HB hb; clear hb hg; refine bD4 M ?_; intros) | ((with_reducible refine gC 81 ?_); refine gL 15 func81 #[.slice y l0_3.length D, .int .i64 (wrap64 (a1 - (s.size : Int)))] ?_; (with_reducible refine (laws_szIntS.calls _ _ l0_3 (wrap64 (a1 - (s.size : Int))) X _ ?Y1 ?Y2 A6.out).mono ?_); (case Y1 => have h_ := Kd.C_below O.out HB.out; exact tC); (case Y2 => exact U.out); rintro e w' ⟨rfl, ⟨nd, rfl⟩⟩; refine ⟨_, rfl, ?_⟩))
   go_ret
   exact ⟨Z1, Z162⟩
  ·rw [if_neg c7] at H
   have aC := decide_eq_false c7
   clear c7
   obtain rfl := oI H
   go_enter func48, ntmps48
   go_wp2_with (first | ((with_reducible refine gD 2 ?_); refine bxF w 2 #[.int .i64 I, .string s, .bool J, .slice y l0_3.length D] 63 (Z0) ?_; intro Y hg aF M Z GE114 HB hb; clear hb hg; refine bD4 M ?_; intros) | ((with_reducible refine gC 81 ?_); refine gL 15 func81 #[.slice y l0_3.length D, .int .i64 (wrap64 (a1 - (s.size : Int)))] ?_; (with_reducible refine (laws_szIntS.calls _ _ l0_3 (wrap64 (a1 - (s.size : Int))) X _ ?Y1 ?Y2 A6.out).mono ?_); (case Y1 => have h_ := Kd.C_below O.out HB.out; exact tC); (case Y2 => exact U.out); rintro e w' ⟨rfl, ⟨nd, rfl⟩⟩; refine ⟨_, rfl, ?_⟩))
   go_ret
   exact ⟨Z1, Z162⟩
def laws_szNntp.f (s : ByteArray) (y : Int) (D : Bool) (a1 : Int) : Option (Int) := if (wrap64 (a1 - (s.size : Int))) < 0 then (some (-1)) else (some (wrap64 (a1 - (s.size : Int))))
theorem laws_szNntp.calls (s : ByteArray) (y : Int) (D : Bool) (a1 : Int) (r : Int) (w : World) (h : laws_szNntp.f s y D a1 = some r) :
  Calls prog 49 #[.agg #[.string s, .int .i64 y, .bool D], .int .i64 a1] w fun e w' => e = .returned (.int .i64 r) ∧ Below w.heap.size w w' := by
 have U := underlying64
 have HB := aM (Below.refl w.heap.size w)
 have H := h
 clear h
 unfold laws_szNntp.f at H
 by_cases c3 : (wrap64 (a1 - (s.size : Int))) < 0
 ·rw [if_pos c3] at H
  have J := decide_eq_true c3
  clear c3
  obtain rfl := oI H
  go_enter func49, ntmps49
  go_wp2_with (first | ((with_reducible refine gD 2 ?_); refine bxF w 2 #[.string s, .int .i64 y, .bool D] 64 (Z0) ?_; intro M hg w4 I O GE116 HB hb; clear hb hg; refine bD3 I ?_; intros))
  go_ret
  exact ⟨Z1, Z198⟩
 ·rw [if_neg c3] at H
  have J := decide_eq_false c3
  clear c3
  obtain rfl := oI H
  go_enter func49, ntmps49
  go_wp2_with (first | ((with_reducible refine gD 2 ?_); refine bxF w 2 #[.string s, .int .i64 y, .bool D] 64 (Z0) ?_; intro M hg w6 I O GE116 HB hb; clear hb hg; refine bD3 I ?_; intros))
  go_ret
  exact ⟨Z1, Z198⟩
def laws_szConn.f (Z : Int) (s : ByteArray) (I : Int) (J : ByteArray) (M : Bool) (O : List Int) (U : ByteArray) (X : Int) (Y : Bool) (a1 : Int) : Option (Int) := if (wrap64 (a1 - (s.size : Int))) < 0 then (some (-1)) else ((laws_szImap.f I J M O (wrap64 (a1 - (s.size : Int)))).bind fun y => (if y < 0 then (some (-1)) else ((laws_szNntp.f U X Y y).bind fun D => (if D < 0 then (some (-1)) else (some D)))))
theorem laws_szConn.calls (aA : Int) (y : ByteArray) (D : Int) (I : ByteArray) (J : Bool) (X : Option Addr) (Y : Nat) (s : List Int) (M : ByteArray) (O : Int) (U : Bool) (a1 : Int) (r : Int) (w : World) (aC : Kd.C (Kd.int .i64) w X s.length s) (aD : s.length ≤ Y) (h : laws_szConn.f aA y D I J s M O U a1 = some r) :
  Calls prog 23 #[.agg #[.int .i64 aA, .string y, .int .i64 D, .string I, .bool J, .slice X s.length Y, .string M, .int .i64 O, .bool U], .int .i64 a1] w fun e w' => e = .returned (.int .i64 r) ∧ Below w.heap.size w w' := by
 have aN := underlying66
 have aO := underlying63
 have aP := underlying64
 replace aC := aM aC
 replace aD := aM aD
 have HB := aM (Below.refl w.heap.size w)
 have H := h
 clear h
 unfold laws_szConn.f at H
 by_cases c3 : (wrap64 (a1 - (y.size : Int))) < 0
 ·rw [if_pos c3] at H
  have aJ := decide_eq_true c3
  clear c3
  obtain rfl := oI H
  go_enter func23, ntmps23
  go_wp2_with (first | ((with_reducible refine gD 2 ?_); refine bxF w 2 #[.int .i64 aA, .string y, .int .i64 D, .string I, .bool J, .slice X s.length Y, .string M, .int .i64 O, .bool U] 66 (Z0) ?_; intro aE hg w4 BK117 aF GE117 HB hb; clear hb hg; refine bD9 BK117 ?_; intros))
  go_ret
  exact ⟨Z1, Z71⟩
 ·rw [if_neg c3] at H
  have aJ := decide_eq_false c3
  clear c3
  obtain ⟨Z, A6, H⟩ := bindA H
  try dsimp only at H
  by_cases c7 : Z < 0
  ·rw [if_pos c7] at H
   have aK := decide_eq_true c7
   clear c7
   obtain rfl := oI H
   go_enter func23, ntmps23
   go_wp2_with (first | ((with_reducible refine gD 2 ?_); refine bxF w 2 #[.int .i64 aA, .string y, .int .i64 D, .string I, .bool J, .slice X s.length Y, .string M, .int .i64 O, .bool U] 66 (Z0) ?_; intro aE hg w8 BK117 aF GE117 HB hb; clear hb hg; refine bD9 BK117 ?_; intros) | ((with_reducible refine gC 48 ?_); refine gL 15 func48 #[.agg #[.int .i64 D, .string I, .bool J, .slice X s.length Y], .int .i64 (wrap64 (a1 - (y.size : Int)))] ?_; (with_reducible refine (laws_szImap.calls D I J _ _ s (wrap64 (a1 - (y.size : Int))) Z _ ?Y1 ?Y2 A6.out).mono ?_); (case Y1 => have h_ := Kd.C_below aC.out HB.out; exact tC); (case Y2 => exact aD.out); rintro e aR ⟨rfl, hb⟩; refine ⟨_, rfl, ?_⟩; replace BK117 := aM (kB BK117 (Z140) hb); replace HB := aM (below_step (Z71) hb); (try clear hb)))
   go_ret
   exact ⟨Z1, Z71⟩
  ·rw [if_neg c7] at H
   have aK := decide_eq_false c7
   clear c7
   obtain ⟨aH, aI, H⟩ := bindA H
   try dsimp only at H
   by_cases aB : aH < 0
   ·rw [if_pos aB] at H
    have aL := decide_eq_true aB
    clear aB
    obtain rfl := oI H
    go_enter func23, ntmps23
    go_wp2_with (first | ((with_reducible refine gD 2 ?_); refine bxF w 2 #[.int .i64 aA, .string y, .int .i64 D, .string I, .bool J, .slice X s.length Y, .string M, .int .i64 O, .bool U] 66 (Z0) ?_; intro aE hg aS BK117 aF GE117 HB hb; clear hb hg; refine bD9 BK117 ?_; intros) | ((with_reducible refine gC 48 ?_); refine gL 15 func48 #[.agg #[.int .i64 D, .string I, .bool J, .slice X s.length Y], .int .i64 (wrap64 (a1 - (y.size : Int)))] ?_; (with_reducible refine (laws_szImap.calls D I J _ _ s (wrap64 (a1 - (y.size : Int))) Z _ ?Y1 ?Y2 A6.out).mono ?_); (case Y1 => have h_ := Kd.C_below aC.out HB.out; exact tC); (case Y2 => exact aD.out); rintro e aT ⟨rfl, hb⟩; refine ⟨_, rfl, ?_⟩; replace BK117 := aM (kB BK117 (Z140) hb); replace HB := aM (below_step (Z71) hb); (try clear hb); refine bD9 BK117 ?_; intros) | ((with_reducible refine gC 49 ?_); refine gL 21 func49 #[.agg #[.string M, .int .i64 O, .bool U], .int .i64 Z] ?_; (with_reducible refine (laws_szNntp.calls M O U Z aH _ aI.out).mono ?_); rintro e aU ⟨rfl, hb⟩; refine ⟨_, rfl, ?_⟩; replace BK117 := aM (kB BK117 (Z140) hb); replace HB := aM (below_step (Z71) hb); (try clear hb)))
    go_ret
    exact ⟨Z1, Z71⟩
   ·rw [if_neg aB] at H
    have aL := decide_eq_false aB
    clear aB
    obtain rfl := oI H
    go_enter func23, ntmps23
    go_wp2_with (first | ((with_reducible refine gD 2 ?_); refine bxF w 2 #[.int .i64 aA, .string y, .int .i64 D, .string I, .bool J, .slice X s.length Y, .string M, .int .i64 O, .bool U] 66 (Z0) ?_; intro aE hg aV BK117 aF GE117 HB hb; clear hb hg; refine bD9 BK117 ?_; intros) | ((with_reducible refine gC 48 ?_); refine gL 15 func48 #[.agg #[.int .i64 D, .string I, .bool J, .slice X s.length Y], .int .i64 (wrap64 (a1 - (y.size : Int)))] ?_; (with_reducible refine (laws_szImap.calls D I J _ _ s (wrap64 (a1 - (y.size : Int))) Z _ ?Y1 ?Y2 A6.out).mono ?_); (case Y1 => have h_ := Kd.C_below aC.out HB.out; exact tC); (case Y2 => exact aD.out); rintro e aW ⟨rfl, hb⟩; refine ⟨_, rfl, ?_⟩; replace BK117 := aM (kB BK117 (Z140) hb); replace HB := aM (below_step (Z71) hb); (try clear hb); refine bD9 BK117 ?_; intros) | ((with_reducible refine gC 49 ?_); refine gL 21 func49 #[.agg #[.string M, .int .i64 O, .bool U], .int .i64 Z] ?_; (with_reducible refine (laws_szNntp.calls M O U Z aH _ aI.out).mono ?_); rintro e aX ⟨rfl, hb⟩; refine ⟨_, rfl, ?_⟩; replace BK117 := aM (kB BK117 (Z140) hb); replace HB := aM (below_step (Z71) hb); (try clear hb)))
    go_ret
    exact ⟨Z1, Z71⟩
def laws_szConnS.l0 : Nat → List (S66) → Int → Int → Option (Int)
 | 0, _, _, _ => none
 | k + 1, x0, x1, x5 => if x5 < (x0.length : Int) then (if 0 ≤ x5 then ((laws_szConn.f ((rd_T66 x0 x5).f0) ((rd_T66 x0 x5).f1) ((rd_T66 x0 x5).f2.f0) ((rd_T66 x0 x5).f2.f1) ((rd_T66 x0 x5).f2.f2) ((rd_T66 x0 x5).f2.f3) ((rd_T66 x0 x5).f3.f0) ((rd_T66 x0 x5).f3.f1) ((rd_T66 x0 x5).f3.f2) x1).bind fun s => (if s < 0 then (some (-1)) else (laws_szConnS.l0 k x0 s (wrap64 (x5 + 1))))) else (none)) else (some x1)
def laws_szConnS.f (k : Nat) (l0 : List (S66)) (a1 : Int) : Option (Int) := if (wrap64 (a1 - (l0.length : Int))) < 0 then (some (-1)) else (laws_szConnS.l0 k l0 (wrap64 (a1 - (l0.length : Int))) 0)
theorem laws_szConnS.calls (k : Nat) (A0 : Option Addr) (c0 : Nat) (l0 : List (S66)) (a1 : Int) (r : Int) (w : World) (hr0 : Kd.C k66 w A0 l0.length l0) (aK : l0.length ≤ c0) (h : laws_szConnS.f k l0 a1 = some r) :
  Calls prog 10 #[.slice A0 l0.length c0, .int .i64 a1] w fun e w' => e = .returned (.int .i64 r) ∧ Below w.heap.size w w' := by
 have aV := underlying66
 replace hr0 := aM hr0
 replace aK := aM aK
 have HB := aM (Below.refl w.heap.size w)
 have H := h
 clear h
 unfold laws_szConnS.f at H
 by_cases c3 : (wrap64 (a1 - (l0.length : Int))) < 0
 ·rw [if_pos c3] at H
  have aL := decide_eq_true c3
  clear c3
  obtain rfl := oI H
  go_enter func10, ntmps10
  go_wp2
  go_ret
  exact ⟨Z1, Z0⟩
 ·rw [if_neg c3] at H
  have aL := decide_eq_false c3
  clear c3
  have H' := aM H
  clear H
  go_enter func10, ntmps10
  go_wp2
  go_loopg [1, 5] k (fun kq v1 v5 w' => ∃ (s : Int) (x5_1 : Int), v1 = .int .i64 s ∧ v5 = .int .i64 x5_1 ∧ Aside0 (laws_szConnS.l0 kq l0 s x5_1 = some r) ∧ Aside0 (kq ≤ k) ∧ Aside0 (Below w.heap.size w w'))
  case atStart => exact ⟨(wrap64 (a1 - (l0.length : Int))), (0), (Z3), (Z3), H', ⟨Nat.le_refl _⟩, ⟨Z0⟩⟩
  case round =>
   clear H'
   (try clear c3); (try clear aL)
   obtain ⟨s, x5_1, rfl, rfl, HA, HK1, HB⟩ := hrel
   cases gk with
   | zero => exact absurd HA.out (by simp [laws_szConnS.l0])
   | succ k1 =>
    have H := HA.out
    clear HA
    simp only [laws_szConnS.l0] at H
    by_cases c4 : x5_1 < (l0.length : Int)
    ·rw [if_pos c4] at H
     have aR := decide_eq_true c4
     clear c4
     obtain ⟨c5, H⟩ := ifS H
     have aW := decide_eq_true c5
     clear c5
     obtain ⟨aD, A6, H⟩ := bindA H
     try dsimp only at H
     by_cases c7 : aD < 0
     ·rw [if_pos c7] at H
      have aS := decide_eq_true c7
      clear c7
      obtain rfl := oI H
      have y : 0 ≤ (x5_1 : Int) := of_decide_eq_true (Z4)
      have D : x5_1 < (l0.length : Int) := of_decide_eq_true (Z4)
      obtain ⟨aT, aE, aF, aG, I, J, M, O, U, X, Y, Z, aA, aB, aC⟩ := at_T66 hr0.out x5_1 y D
      cases aG
      replace I := cB HB.out I
      replace J := cB HB.out J
      replace M := cB HB.out M
      replace O := cB HB.out O
      replace U := cB HB.out U
      replace X := cB HB.out X
      replace Y := cB HB.out Y
      replace Z := cB HB.out Z
      replace aA := cB HB.out aA
      have aH := aM aC
      have aI := aM aB
      clear aC aB
      replace y := eq_true y
      replace D := eq_true D
      go_wp2_with (first | ((with_reducible refine gC 23 ?_); refine gL 23 func23 #[.agg #[.int .i64 ((rd_T66 l0 x5_1).f0), .string ((rd_T66 l0 x5_1).f1), .int .i64 ((rd_T66 l0 x5_1).f2.f0), .string ((rd_T66 l0 x5_1).f2.f1), .bool ((rd_T66 l0 x5_1).f2.f2), .slice aE ((rd_T66 l0 x5_1).f2.f3).length aF, .string ((rd_T66 l0 x5_1).f3.f0), .int .i64 ((rd_T66 l0 x5_1).f3.f1), .bool ((rd_T66 l0 x5_1).f3.f2)], .int .i64 s] ?_; (with_reducible refine (laws_szConn.calls ((rd_T66 l0 x5_1).f0) ((rd_T66 l0 x5_1).f1) ((rd_T66 l0 x5_1).f2.f0) ((rd_T66 l0 x5_1).f2.f1) ((rd_T66 l0 x5_1).f2.f2) _ _ ((rd_T66 l0 x5_1).f2.f3) ((rd_T66 l0 x5_1).f3.f0) ((rd_T66 l0 x5_1).f3.f1) ((rd_T66 l0 x5_1).f3.f2) s aD _ ?Y1 ?Y2 A6.out).mono ?_); (case Y1 => have h_ := Kd.C_below aH.out HB.out; exact tC); (case Y2 => exact aI.out); rintro e w8 ⟨rfl, hb⟩; refine ⟨_, rfl, ?_⟩; replace HB := aM (below_step (Z0) hb); (try clear hb); (try clear aU); (try clear hk); (try clear hi)))
      go_ret
      exact ⟨Z1, Z0⟩
     ·rw [if_neg c7] at H
      have aS := decide_eq_false c7
      clear c7
      have H' := aM H
      clear H
      have y : 0 ≤ (x5_1 : Int) := of_decide_eq_true (Z4)
      have D : x5_1 < (l0.length : Int) := of_decide_eq_true (Z4)
      obtain ⟨aT, aE, aF, aG, I, J, M, O, U, X, Y, Z, aA, aB, aC⟩ := at_T66 hr0.out x5_1 y D
      cases aG
      replace I := cB HB.out I
      replace J := cB HB.out J
      replace M := cB HB.out M
      replace O := cB HB.out O
      replace U := cB HB.out U
      replace X := cB HB.out X
      replace Y := cB HB.out Y
      replace Z := cB HB.out Z
      replace aA := cB HB.out aA
      have aH := aM aC
      have aI := aM aB
      clear aC aB
      replace y := eq_true y
      replace D := eq_true D
      go_wp2_with (first | ((with_reducible refine gC 23 ?_); refine gL 23 func23 #[.agg #[.int .i64 ((rd_T66 l0 x5_1).f0), .string ((rd_T66 l0 x5_1).f1), .int .i64 ((rd_T66 l0 x5_1).f2.f0), .string ((rd_T66 l0 x5_1).f2.f1), .bool ((rd_T66 l0 x5_1).f2.f2), .slice aE ((rd_T66 l0 x5_1).f2.f3).length aF, .string ((rd_T66 l0 x5_1).f3.f0), .int .i64 ((rd_T66 l0 x5_1).f3.f1), .bool ((rd_T66 l0 x5_1).f3.f2)], .int .i64 s] ?_; (with_reducible refine (laws_szConn.calls ((rd_T66 l0 x5_1).f0) ((rd_T66 l0 x5_1).f1) ((rd_T66 l0 x5_1).f2.f0) ((rd_T66 l0 x5_1).f2.f1) ((rd_T66 l0 x5_1).f2.f2) _ _ ((rd_T66 l0 x5_1).f2.f3) ((rd_T66 l0 x5_1).f3.f0) ((rd_T66 l0 x5_1).f3.f1) ((rd_T66 l0 x5_1).f3.f2) s aD _ ?Y1 ?Y2 A6.out).mono ?_); (case Y1 => have h_ := Kd.C_below aH.out HB.out; exact tC); (case Y2 => exact aI.out); rintro e w9 ⟨rfl, hb⟩; refine ⟨_, rfl, ?_⟩; replace HB := aM (below_step (Z0) hb); (try clear hb); (try clear aU); (try clear hk); (try clear hi)))
      go_roundg k1
      case measure => have := HK1.out; omega
      case rel => exact ⟨(aD), (wrap64 (x5_1 + 1)), (Z3), (Z3), H', ⟨Z125⟩, ⟨Z0⟩⟩
    ·rw [if_neg c4] at H
     have aR := decide_eq_false c4
     clear c4
     obtain rfl := oI H
     go_wp2
     go_ret
     exact ⟨Z1, Z0⟩
def laws_szWorld.f (k : Nat) (D : Int) (I : ByteArray) (J : Int) (l0_3 : List (S91)) (M : List (S66)) (a1 : Int) : Option (Int) := (laws_szEngine.f k D I J l0_3 a1).bind fun s => (if s < 0 then (some (-1)) else ((laws_szConnS.f k M s).bind fun y => (if y < 0 then (some (-1)) else (some y))))
theorem laws_szWorld.calls (k : Nat) (y : Int) (D : ByteArray) (I : Int) (J : Option Addr) (M : Nat) (l0_3 : List (S91)) (U : Option Addr) (X : Nat) (s : List (S66)) (a1 : Int) (r : Int) (w : World) (Y : Kd.C k91 w J l0_3.length l0_3) (Z : l0_3.length ≤ M) (aA : Kd.C k66 w U s.length s) (aB : s.length ≤ X) (h : laws_szWorld.f k y D I l0_3 s a1 = some r) :
  Calls prog 4 #[.agg #[.int .i64 y, .string D, .int .i64 I, .slice J l0_3.length M, .slice U s.length X], .int .i64 a1] w fun e w' => e = .returned (.int .i64 r) ∧ Below w.heap.size w w' := by
 have aJ := underlying29
 have aK := underlying26
 replace Y := aM Y
 replace Z := aM Z
 replace aA := aM aA
 replace aB := aM aB
 have HB := aM (Below.refl w.heap.size w)
 have H := h
 clear h
 unfold laws_szWorld.f at H
 obtain ⟨O, A3, H⟩ := bindA H
 try dsimp only at H
 by_cases c4 : O < 0
 ·rw [if_pos c4] at H
  have aH := decide_eq_true c4
  clear c4
  obtain rfl := oI H
  go_enter func4, ntmps4
  go_wp2_with (first | ((with_reducible refine gD 2 ?_); refine bxF w 2 #[.int .i64 y, .string D, .int .i64 I, .slice J l0_3.length M, .slice U s.length X] 29 (Z0) ?_; intro aE hg w5 BK122 aF GE122 HB hb; clear hb hg; refine bD5 BK122 ?_; intros) | ((with_reducible refine gC 9 ?_); refine gL 8 func9 #[.agg #[.int .i64 y, .string D, .int .i64 I, .slice J l0_3.length M], .int .i64 a1] ?_; (with_reducible refine (laws_szEngine.calls k y D I _ _ l0_3 a1 O _ ?Y1 ?Y2 A3.out).mono ?_); (case Y1 => have h_ := Kd.C_below Y.out HB.out; exact tC); (case Y2 => exact Z.out); rintro e w7 ⟨rfl, hb⟩; refine ⟨_, rfl, ?_⟩; replace BK122 := aM (kB BK122 (Z141) hb); replace HB := aM (below_step (Z81) hb); (try clear hb)))
  go_ret
  exact ⟨Z1, Z81⟩
 ·rw [if_neg c4] at H
  have aH := decide_eq_false c4
  clear c4
  obtain ⟨aD, A8, H⟩ := bindA H
  try dsimp only at H
  by_cases c9 : aD < 0
  ·rw [if_pos c9] at H
   have aI := decide_eq_true c9
   clear c9
   obtain rfl := oI H
   go_enter func4, ntmps4
   go_wp2_with (first | ((with_reducible refine gD 2 ?_); refine bxF w 2 #[.int .i64 y, .string D, .int .i64 I, .slice J l0_3.length M, .slice U s.length X] 29 (Z0) ?_; intro aE hg aL BK122 aF GE122 HB hb; clear hb hg; refine bD5 BK122 ?_; intros) | ((with_reducible refine gC 9 ?_); refine gL 8 func9 #[.agg #[.int .i64 y, .string D, .int .i64 I, .slice J l0_3.length M], .int .i64 a1] ?_; (with_reducible refine (laws_szEngine.calls k y D I _ _ l0_3 a1 O _ ?Y1 ?Y2 A3.out).mono ?_); (case Y1 => have h_ := Kd.C_below Y.out HB.out; exact tC); (case Y2 => exact Z.out); rintro e aN ⟨rfl, hb⟩; refine ⟨_, rfl, ?_⟩; replace BK122 := aM (kB BK122 (Z141) hb); replace HB := aM (below_step (Z81) hb); (try clear hb); refine bD5 BK122 ?_; intros) | ((with_reducible refine gC 10 ?_); refine gL 14 func10 #[.slice U s.length X, .int .i64 O] ?_; (with_reducible refine (laws_szConnS.calls k _ _ s O aD _ ?Y1 ?Y2 A8.out).mono ?_); (case Y1 => have h_ := Kd.C_below aA.out HB.out; exact tC); (case Y2 => exact aB.out); rintro e aO ⟨rfl, hb⟩; refine ⟨_, rfl, ?_⟩; replace BK122 := aM (kB BK122 (Z141) hb); replace HB := aM (below_step (Z81) hb); (try clear hb)))
   go_ret
   exact ⟨Z1, Z81⟩
  ·rw [if_neg c9] at H
   have aI := decide_eq_false c9
   clear c9
   obtain rfl := oI H
   go_enter func4, ntmps4
   go_wp2_with (first | ((with_reducible refine gD 2 ?_); refine bxF w 2 #[.int .i64 y, .string D, .int .i64 I, .slice J l0_3.length M, .slice U s.length X] 29 (Z0) ?_; intro aE hg aP BK122 aF GE122 HB hb; clear hb hg; refine bD5 BK122 ?_; intros) | ((with_reducible refine gC 9 ?_); refine gL 8 func9 #[.agg #[.int .i64 y, .string D, .int .i64 I, .slice J l0_3.length M], .int .i64 a1] ?_; (with_reducible refine (laws_szEngine.calls k y D I _ _ l0_3 a1 O _ ?Y1 ?Y2 A3.out).mono ?_); (case Y1 => have h_ := Kd.C_below Y.out HB.out; exact tC); (case Y2 => exact Z.out); rintro e aQ ⟨rfl, hb⟩; refine ⟨_, rfl, ?_⟩; replace BK122 := aM (kB BK122 (Z141) hb); replace HB := aM (below_step (Z81) hb); (try clear hb); refine bD5 BK122 ?_; intros) | ((with_reducible refine gC 10 ?_); refine gL 14 func10 #[.slice U s.length X, .int .i64 O] ?_; (with_reducible refine (laws_szConnS.calls k _ _ s O aD _ ?Y1 ?Y2 A8.out).mono ?_); (case Y1 => have h_ := Kd.C_below aA.out HB.out; exact tC); (case Y2 => exact aB.out); rintro e aR ⟨rfl, hb⟩; refine ⟨_, rfl, ?_⟩; replace BK122 := aM (kB BK122 (Z141) hb); replace HB := aM (below_step (Z81) hb); (try clear hb)))
   go_ret
   exact ⟨Z1, Z81⟩
def spec_l01In.f (a0 : Int) (a1 : Int) (s : Int) : Option (Bool) := if a0 ≥ a1 then (some (decide (a0 ≤ s))) else (some false)
theorem spec_l01In.calls (a0 : Int) (a1 : Int) (s : Int) (r : Bool) (w : World) (h : spec_l01In.f a0 a1 s = some r) :
  Calls prog 50 #[.int .i64 a0, .int .i64 a1, .int .i64 s] w fun e w' => e = .returned (.bool r) ∧ Drawn0 w w' := by
 have H := h
 clear h
 unfold spec_l01In.f at H
 by_cases c4 : a0 ≥ a1
 ·rw [if_pos c4] at H
  have y : decide (a1 ≤ a0) = true := decide_eq_true c4
  clear c4
  obtain rfl := oI H
  go_enter func50, ntmps50
  go_wp2
  go_ret
  exact ⟨Z3, Z9⟩
 ·rw [if_neg c4] at H
  have y : decide (a1 ≤ a0) = false := decide_eq_false c4
  clear c4
  obtain rfl := oI H
  go_enter func50, ntmps50
  go_wp2
  go_ret
  exact ⟨Z3, Z9⟩
def spec_LogOK.f (s : Int) (y : ByteArray) (D : Int) : Option (Bool) := (spec_l01In.f s 0 60000).bind fun I => (if I = true then (if (y.size : Int) ≤ s then ((spec_l01In.f D 0 (y.size : Int)).bind fun J => (some J)) else (some false)) else (some false))
theorem spec_LogOK.calls (s : Int) (y : ByteArray) (D : Int) (r : Bool) (w : World) (h : spec_LogOK.f s y D = some r) :
  Calls prog 24 #[.agg #[.int .i64 s, .string y, .int .i64 D]] w fun e w' => e = .returned (.bool r) ∧ Below w.heap.size w w' := by
 have aA := underlying32
 have HB := aM (Below.refl w.heap.size w)
 have H := h
 clear h
 unfold spec_LogOK.f at H
 obtain ⟨U, J, H⟩ := bindA H
 try dsimp only at H
 by_cases c3 : U = true
 ·subst c3
  replace H := ifT H
  by_cases c4 : (y.size : Int) ≤ s
  ·rw [if_pos c4] at H
   have X := decide_eq_true c4
   clear c4
   obtain ⟨Y, Z, H⟩ := bindA H
   try dsimp only at H
   obtain rfl := oI H
   go_enter func24, ntmps24
   go_wp2_with (first | ((with_reducible refine gD 1 ?_); (try (refine gate_guard (Z117) ?_; dsimp only)); refine bxF w 1 #[.int .i64 s, .string y, .int .i64 D] 32 (Z0) ?_; intro M hg w6 I O GE125 HB hb; clear hb hg; refine bD3 I ?_; intros) | ((with_reducible refine gC 50 ?_); refine gL 5 func50 #[.int .i64 s, .int .i64 0, .int .i64 60000] ?_; (with_reducible refine (spec_l01In.calls s 0 60000 true _ J.out).mono ?_); rintro e w' ⟨rfl, ⟨nd, rfl⟩⟩; refine ⟨_, rfl, ?_⟩) | (go_at_call 50; (with_reducible refine (spec_l01In.calls D 0 (y.size : Int) Y _ Z.out).mono ?_); rintro e w' ⟨rfl, ⟨nd, rfl⟩⟩))
   go_ret
   exact ⟨Z1, Z163⟩
  ·rw [if_neg c4] at H
   have X := decide_eq_false c4
   clear c4
   obtain rfl := oI H
   go_enter func24, ntmps24
   go_wp2_with (first | ((with_reducible refine gD 1 ?_); (try (refine gate_guard (Z117) ?_; dsimp only)); refine bxF w 1 #[.int .i64 s, .string y, .int .i64 D] 32 (Z0) ?_; intro M hg w8 I O GE125 HB hb; clear hb hg; refine bD3 I ?_; intros) | ((with_reducible refine gC 50 ?_); refine gL 5 func50 #[.int .i64 s, .int .i64 0, .int .i64 60000] ?_; (with_reducible refine (spec_l01In.calls s 0 60000 true _ J.out).mono ?_); rintro e w' ⟨rfl, ⟨nd, rfl⟩⟩; refine ⟨_, rfl, ?_⟩))
   go_ret
   exact ⟨Z1, Z163⟩
 ·replace c3 := Bool.eq_false_iff.mpr c3
  subst c3
  replace H := ifF H
  obtain rfl := oI H
  go_enter func24, ntmps24
  go_wp2_with (first | ((with_reducible refine gD 1 ?_); (try (refine gate_guard (Z117) ?_; dsimp only)); refine bxF w 1 #[.int .i64 s, .string y, .int .i64 D] 32 (Z0) ?_; intro M hg aC I O GE125 HB hb; clear hb hg; refine bD3 I ?_; intros) | ((with_reducible refine gC 50 ?_); refine gL 5 func50 #[.int .i64 s, .int .i64 0, .int .i64 60000] ?_; (with_reducible refine (spec_l01In.calls s 0 60000 false _ J.out).mono ?_); rintro e w' ⟨rfl, ⟨nd, rfl⟩⟩; refine ⟨_, rfl, ?_⟩))
  go_ret
  exact ⟨Z1, Z163⟩
def spec_l09Find.l0 : Nat → List (S98) → ByteArray → Int → Option (Int)
 | 0, _, _, _ => none
 | k + 1, x0, x1, x5 => if x5 < (x0.length : Int) then (if 0 ≤ x5 then (if ((rd_T98 x0 x5).f0).toList = x1.toList then (some x5) else (spec_l09Find.l0 k x0 x1 (wrap64 (x5 + 1)))) else (none)) else (some (-1))
def spec_l09Find.f (k : Nat) (l0 : List (S98)) (a1 : ByteArray) : Option (Int) := spec_l09Find.l0 k l0 a1 0
theorem spec_l09Find.calls (k : Nat) (U : Option Addr) (c0 : Nat) (l0 : List (S98)) (a1 : ByteArray) (r : Int) (w : World) (hr0 : Kd.C k98 w U l0.length l0) (X : l0.length ≤ c0) (h : spec_l09Find.f k l0 a1 = some r) :
  Calls prog 30 #[.slice U l0.length c0, .string a1] w fun e w' => e = .returned (.int .i64 r) ∧ Drawn0 w w' := by
 replace hr0 := aM hr0
 replace X := aM X
 have H := h
 clear h
 unfold spec_l09Find.f at H
 have H' := aM H
 clear H
 go_enter func30, ntmps30
 go_wp2
 go_loopg [5] k (fun kq Y w' => ∃ (x5_1 : Int), Y = .int .i64 x5_1 ∧ Aside0 (spec_l09Find.l0 kq l0 a1 x5_1 = some r) ∧ Aside0 (kq ≤ k) ∧ Drawn0 w w')
 case atStart => exact ⟨(0), (Z3), H', ⟨Nat.le_refl _⟩, Z9⟩
 case round =>
  clear H'
  obtain ⟨x5_1, rfl, HA, HK1, ⟨m1, rfl⟩⟩ := hrel
  cases gk with
  | zero => exact absurd HA.out (by simp [spec_l09Find.l0])
  | succ Z =>
   have H := HA.out
   clear HA
   simp only [spec_l09Find.l0] at H
   by_cases c3 : x5_1 < (l0.length : Int)
   ·rw [if_pos c3] at H
    have aA := decide_eq_true c3
    clear c3
    obtain ⟨c4, H⟩ := ifS H
    have aS := decide_eq_true c4
    clear c4
    by_cases c5 : ((rd_T98 l0 x5_1).f0).toList = a1.toList
    ·rw [if_pos c5] at H
     have aB := beq_iff_eq.mpr c5
     have aC := bne_eq_false_iff_eq.mpr c5
     clear c5
     obtain rfl := oI H
     have s : 0 ≤ (x5_1 : Int) := of_decide_eq_true (Z4)
     have y : x5_1 < (l0.length : Int) := of_decide_eq_true (Z4)
     obtain ⟨aD, aE, aF, aG, aH, O, aI, aJ, aK, aL, aN, D, I, J, M⟩ := at_T98 hr0.out x5_1 s y
     cases O
     have aO := aM I
     have aP := aM D
     clear I D
     have aQ := aM M
     have aR := aM J
     clear M J
     replace s := eq_true s
     replace y := eq_true y
     go_wp2
     go_ret
     exact ⟨Z3, Z9⟩
    ·rw [if_neg c5] at H
     have aB := beq_eq_false_iff_ne.mpr c5
     have aC := bne_iff_ne.mpr c5
     have H' := aM H
     clear H
     have s : 0 ≤ (x5_1 : Int) := of_decide_eq_true (Z4)
     have y : x5_1 < (l0.length : Int) := of_decide_eq_true (Z4)
     obtain ⟨aD, aE, aF, aG, aH, O, aI, aJ, aK, aL, aN, D, I, J, M⟩ := at_T98 hr0.out x5_1 s y
     cases O
     have aO := aM I
     have aP := aM D
     clear I D
     have aQ := aM M
     have aR := aM J
     clear M J
     replace s := eq_true s
     replace y := eq_true y
     go_wp2
     go_roundg Z
     case measure => have := HK1.out; omega
     case rel => exact ⟨(wrap64 (x5_1 + 1)), (Z3), H', ⟨Z125⟩, Z9⟩
   ·rw [if_neg c3] at H
    have aA := decide_eq_false c3
    clear c3
    obtain rfl := oI H
    go_wp2
    go_ret
    exact ⟨Z3, Z9⟩
def spec_l00Letter.f (a0 : Int) : Option (Bool) := if a0 ≥ 97 then (if a0 ≤ 122 then (some true) else (if a0 ≥ 65 then (if a0 ≤ 90 then (some true) else (some (a0 == 95))) else (some (a0 == 95)))) else (if a0 ≥ 65 then (if a0 ≤ 90 then (some true) else (some (a0 == 95))) else (some (a0 == 95)))
theorem spec_l00Letter.calls (a0 : Int) (r : Bool) (w : World) (h : spec_l00Letter.f a0 = some r) :
  Calls prog 115 #[.int .u8 a0] w fun e w' => e = .returned (.bool r) ∧ Drawn0 w w' := by
 have H := h
 clear h
 unfold spec_l00Letter.f at H
 by_cases c2 : a0 ≥ 97
 ·rw [if_pos c2] at H
  have s : decide (97 ≤ a0) = true := decide_eq_true c2
  clear c2
  by_cases c3 : a0 ≤ 122
  ·rw [if_pos c3] at H
   have y := decide_eq_true c3
   clear c3
   obtain rfl := oI H
   go_enter func115, ntmps115
   go_wp2
   go_ret
   exact ⟨Z3, Z9⟩
  ·rw [if_neg c3] at H
   have y := decide_eq_false c3
   clear c3
   by_cases c4 : a0 ≥ 65
   ·rw [if_pos c4] at H
    have D : decide (65 ≤ a0) = true := decide_eq_true c4
    clear c4
    by_cases c5 : a0 ≤ 90
    ·rw [if_pos c5] at H
     have I := decide_eq_true c5
     clear c5
     obtain rfl := oI H
     go_enter func115, ntmps115
     go_wp2
     go_ret
     exact ⟨Z3, Z9⟩
    ·rw [if_neg c5] at H
     have I := decide_eq_false c5
     clear c5
     obtain rfl := oI H
     go_enter func115, ntmps115
     go_wp2
     go_ret
     exact ⟨Z3, Z9⟩
   ·rw [if_neg c4] at H
    have D : decide (65 ≤ a0) = false := decide_eq_false c4
    clear c4
    obtain rfl := oI H
    go_enter func115, ntmps115
    go_wp2
    go_ret
    exact ⟨Z3, Z9⟩
 ·rw [if_neg c2] at H
  have s : decide (97 ≤ a0) = false := decide_eq_false c2
  clear c2
  by_cases c6 : a0 ≥ 65
  ·rw [if_pos c6] at H
   have J : decide (65 ≤ a0) = true := decide_eq_true c6
   clear c6
   by_cases c7 : a0 ≤ 90
   ·rw [if_pos c7] at H
    have M := decide_eq_true c7
    clear c7
    obtain rfl := oI H
    go_enter func115, ntmps115
    go_wp2
    go_ret
    exact ⟨Z3, Z9⟩
   ·rw [if_neg c7] at H
    have M := decide_eq_false c7
    clear c7
    obtain rfl := oI H
    go_enter func115, ntmps115
    go_wp2
    go_ret
    exact ⟨Z3, Z9⟩
  ·rw [if_neg c6] at H
   have J : decide (65 ≤ a0) = false := decide_eq_false c6
   clear c6
   obtain rfl := oI H
   go_enter func115, ntmps115
   go_wp2
   go_ret
   exact ⟨Z3, Z9⟩
def spec_l00Digit.f (a0 : Int) : Option (Bool) := if a0 ≥ 48 then (some (decide (a0 ≤ 57))) else (some false)
theorem spec_l00Digit.calls (a0 : Int) (r : Bool) (w : World) (h : spec_l00Digit.f a0 = some r) :
  Calls prog 116 #[.int .u8 a0] w fun e w' => e = .returned (.bool r) ∧ Drawn0 w w' := by
 have H := h
 clear h
 unfold spec_l00Digit.f at H
 by_cases c2 : a0 ≥ 48
 ·rw [if_pos c2] at H
  have s : decide (48 ≤ a0) = true := decide_eq_true c2
  clear c2
  obtain rfl := oI H
  go_enter func116, ntmps116
  go_wp2
  go_ret
  exact ⟨Z3, Z9⟩
 ·rw [if_neg c2] at H
  have s : decide (48 ≤ a0) = false := decide_eq_false c2
  clear c2
  obtain rfl := oI H
  go_enter func116, ntmps116
  go_wp2
  go_ret
  exact ⟨Z3, Z9⟩
mutual
def spec_l00Word.j0 : Nat → ByteArray → Bool → Option (Bool)
 | 0, _, _ => none
 | k + 1, x0, x17 => if x17 = true then (some false) else (spec_l00Word.l0 k x0 1)
def spec_l00Word.l0 : Nat → ByteArray → Int → Option (Bool)
 | 0, _, _ => none
 | k + 1, x0, x3 => if x3 < (x0.size : Int) then (if 0 ≤ x3 then ((spec_l00Letter.f (bt x0 x3)).bind fun s => (if s = true then (spec_l00Word.l0 k x0 (wrap64 (x3 + 1))) else ((spec_l00Digit.f (bt x0 x3)).bind fun y => (if y = true then (spec_l00Word.l0 k x0 (wrap64 (x3 + 1))) else (some false))))) else (none)) else (some true)
end
def spec_l00Word.f (k : Nat) (a0 : ByteArray) : Option (Bool) := if (a0.size : Int) < 1 then (spec_l00Word.j0 k a0 true) else (if (a0.size : Int) > 40 then (spec_l00Word.j0 k a0 true) else (if 0 < (a0.size : Int) then ((spec_l00Letter.f (bt a0 0)).bind fun s => (spec_l00Word.j0 k a0 (!s))) else (none)))
theorem spec_l00Word.calls (k : Nat) (a0 : ByteArray) (r : Bool) (w : World) (h : spec_l00Word.f k a0 = some r) :
  Calls prog 89 #[.string a0] w fun e w' => e = .returned (.bool r) ∧ Drawn0 w w' := by
 have H := h
 clear h
 unfold spec_l00Word.f at H
 have U := aM H
 clear H
 go_enter func89, ntmps89
 go_upto_region 1 with (fail)
 go_cut [17] (fun aF wc => ∃ (kq : Nat) (J : Bool), aF = .bool J ∧ Aside0 (spec_l00Word.j0 kq a0 J = some r) ∧ Aside0 (kq ≤ k) ∧ Drawn0 w wc)
 case first =>
  have H := U.out
  clear U
  by_cases c3 : (a0.size : Int) < 1
  ·rw [if_pos c3] at H
   have y := decide_eq_true c3
   have X : decide (a0.size < 1) = true := decide_eq_true (Z42)
   clear c3
   (first | rw [y] | rw [X] | (simp only [i64_w, i32_w]; rw [y]) | skip)
   have H' := aM H
   clear H
   go_wp2
   go_meet
   case rel => exact ⟨_, (true), (Z3), H', ⟨Z84⟩, Z9⟩
  ·rw [if_neg c3] at H
   have y := decide_eq_false c3
   have X : decide (a0.size < 1) = false := decide_eq_false (Z42)
   clear c3
   (first | rw [y] | rw [X] | (simp only [i64_w, i32_w]; rw [y]) | skip)
   by_cases c4 : (a0.size : Int) > 40
   ·rw [if_pos c4] at H
    have aG : decide (40 < (a0.size : Int)) = true := decide_eq_true c4
    have aH : decide (40 < a0.size) = true := decide_eq_true (Z42)
    clear c4
    have H' := aM H
    clear H
    go_wp2
    go_meet
    case rel => exact ⟨_, (true), (Z3), H', ⟨Z84⟩, Z9⟩
   ·rw [if_neg c4] at H
    have aG : decide (40 < (a0.size : Int)) = false := decide_eq_false c4
    have aH : decide (40 < a0.size) = false := decide_eq_false (Z42)
    clear c4
    obtain ⟨c5, H⟩ := ifS H
    have aP := decide_eq_true c5
    have aQ : decide (0 < a0.size) = true := decide_eq_true (Z42)
    clear c5
    obtain ⟨Z, A7, H⟩ := bindA H
    try dsimp only at H
    have H' := aM H
    clear H
    have p6 : 0 ≤ (0 : Int) := (Z42)
    have q6 : 0 < a0.size := (by have : (0 : Int) < (a0.size : Int) := of_decide_eq_true (Z4); omega)
    have aR : ∀ h : 0 < a0.size, ((a0[0]'h).toNat : Int) = bt a0 0 := bt_at a0 0
    clear p6
    have aS : (0 < (a0.size : Int)) = True := eq_true (of_decide_eq_true (Z4))
    replace q6 := eq_true q6
    go_wp2_with (first | (go_at_call 115; (with_reducible refine (spec_l00Letter.calls (bt a0 0) Z _ A7.out).mono ?_); rintro e w' ⟨rfl, ⟨nd, rfl⟩⟩))
    go_meet
    case rel => exact ⟨_, (!Z), (Z3), H', ⟨Z84⟩, Z9⟩
 case rest =>
  clear U
  obtain ⟨kq, J, rfl, HA, HJ1, ⟨aT, rfl⟩⟩ := hcut
  cases kq with
  | zero => exact absurd HA.out (by simp [spec_l00Word.j0])
  | succ aB =>
   have H := HA.out
   clear HA
   simp only [spec_l00Word.j0] at H
   by_cases c8 : J = true
   ·subst c8
    replace H := ifT H
    obtain rfl := oI H
    go_wp2
    go_ret
    exact ⟨Z3, Z9⟩
   ·replace c8 := Bool.eq_false_iff.mpr c8
    subst c8
    replace H := ifF H
    have H' := aM H
    clear H
    go_wp2
    go_loopg [3] aB (fun kq v3 w' => ∃ (x3_2 : Int), v3 = .int .i64 x3_2 ∧ Aside0 (spec_l00Word.l0 kq a0 x3_2 = some r) ∧ Aside0 (kq ≤ aB) ∧ Drawn0 w w')
    case atStart => exact ⟨(1), (Z3), H', ⟨Nat.le_refl _⟩, Z9⟩
    case round =>
     clear H'
     (try clear c8)
     obtain ⟨x3_2, rfl, HA, HK2, ⟨m2, rfl⟩⟩ := hrel
     cases gk with
     | zero => exact absurd HA.out (by simp [spec_l00Word.l0])
     | succ k2 =>
      have H := HA.out
      clear HA
      simp only [spec_l00Word.l0] at H
      by_cases c9 : x3_2 < (a0.size : Int)
      ·rw [if_pos c9] at H
       have aK := decide_eq_true c9
       clear c9
       obtain ⟨c10, H⟩ := ifS H
       have aU := decide_eq_true c10
       clear c10
       obtain ⟨aL, Y, H⟩ := bindA H
       try dsimp only at H
       by_cases M : aL = true
       ·subst M
        replace H := ifT H
        have H' := aM H
        clear H
        have p11 : 0 ≤ (x3_2 : Int) := of_decide_eq_true (Z4)
        have s : x3_2 < (a0.size : Int) := of_decide_eq_true (Z4)
        have aD := bt_at a0 x3_2
        replace p11 := eq_true p11
        replace s := eq_true s
        go_wp2_with (first | ((with_reducible refine gC 115 ?_); refine gL 27 func115 #[.int .u8 (bt a0 x3_2)] ?_; (with_reducible refine (spec_l00Letter.calls (bt a0 x3_2) true _ Y.out).mono ?_); rintro e w' ⟨rfl, ⟨nd, rfl⟩⟩; refine ⟨_, rfl, ?_⟩))
        go_roundg k2
        case measure => have := HJ1.out; have := HK2.out; omega
        case rel => exact ⟨(wrap64 (x3_2 + 1)), (Z3), H', ⟨Z183⟩, Z9⟩
       ·replace M := Bool.eq_false_iff.mpr M
        subst M
        replace H := ifF H
        obtain ⟨aN, aE, H⟩ := bindA H
        try dsimp only at H
        by_cases O : aN = true
        ·subst O
         replace H := ifT H
         have H' := aM H
         clear H
         have p11 : 0 ≤ (x3_2 : Int) := of_decide_eq_true (Z4)
         have s : x3_2 < (a0.size : Int) := of_decide_eq_true (Z4)
         have aD := bt_at a0 x3_2
         replace p11 := eq_true p11
         replace s := eq_true s
         go_wp2_with (first | ((with_reducible refine gC 115 ?_); refine gL 27 func115 #[.int .u8 (bt a0 x3_2)] ?_; (with_reducible refine (spec_l00Letter.calls (bt a0 x3_2) false _ Y.out).mono ?_); rintro e w' ⟨rfl, ⟨nd, rfl⟩⟩; refine ⟨_, rfl, ?_⟩; have D : 0 ≤ (x3_2 : Int) := of_decide_eq_true (Z4); have I : x3_2 < (a0.size : Int) := of_decide_eq_true (Z4); have aO := bt_at a0 x3_2; replace D := eq_true D; replace I := eq_true I) | (go_at_call 116; (with_reducible refine (spec_l00Digit.calls (bt a0 x3_2) true _ aE.out).mono ?_); rintro e w' ⟨rfl, ⟨nd, rfl⟩⟩))
         go_roundg k2
         case measure => have := HJ1.out; have := HK2.out; omega
         case rel => exact ⟨(wrap64 (x3_2 + 1)), (Z3), H', ⟨Z183⟩, Z9⟩
        ·replace O := Bool.eq_false_iff.mpr O
         subst O
         replace H := ifF H
         obtain rfl := oI H
         have p11 : 0 ≤ (x3_2 : Int) := of_decide_eq_true (Z4)
         have s : x3_2 < (a0.size : Int) := of_decide_eq_true (Z4)
         have aD := bt_at a0 x3_2
         replace p11 := eq_true p11
         replace s := eq_true s
         go_wp2_with (first | ((with_reducible refine gC 115 ?_); refine gL 27 func115 #[.int .u8 (bt a0 x3_2)] ?_; (with_reducible refine (spec_l00Letter.calls (bt a0 x3_2) false _ Y.out).mono ?_); rintro e w' ⟨rfl, ⟨nd, rfl⟩⟩; refine ⟨_, rfl, ?_⟩; have D : 0 ≤ (x3_2 : Int) := of_decide_eq_true (Z4); have I : x3_2 < (a0.size : Int) := of_decide_eq_true (Z4); have aO := bt_at a0 x3_2; replace D := eq_true D; replace I := eq_true I) | (go_at_call 116; (with_reducible refine (spec_l00Digit.calls (bt a0 x3_2) false _ aE.out).mono ?_); rintro e w' ⟨rfl, ⟨nd, rfl⟩⟩))
         go_ret
         exact ⟨Z3, Z9⟩
      ·rw [if_neg c9] at H
       have aK := decide_eq_false c9
       clear c9
       obtain rfl := oI H
       go_wp2
       go_ret
       exact ⟨Z3, Z9⟩
def spec_NameOK.f (k : Nat) (a0 : ByteArray) : Option (Bool) := (spec_l00Word.f k a0).bind fun s => (some s)
theorem spec_NameOK.calls (k : Nat) (a0 : ByteArray) (r : Bool) (w : World) (h : spec_NameOK.f k a0 = some r) :
  Calls prog 57 #[.string a0] w fun e w' => e = .returned (.bool r) ∧ Drawn0 w w' := by
 have H := h
 clear h
 unfold spec_NameOK.f at H
 obtain ⟨s, y, H⟩ := bindA H
 try dsimp only at H
 obtain rfl := oI H
 go_enter func57, ntmps57
 go_wp2_with (first | ((with_reducible refine gC 89 ?_); refine gL 4 func89 #[.string a0] ?_; (with_reducible refine (spec_l00Word.calls k a0 s _ y.out).mono ?_); rintro e w' ⟨rfl, ⟨nd, rfl⟩⟩; refine ⟨_, rfl, ?_⟩))
 go_ret
 exact ⟨Z3, Z9⟩
def spec_l06Has.l0 : Nat → List ByteArray → ByteArray → Int → Option (Bool)
 | 0, _, _, _ => none
 | k + 1, x0, x1, x5 => if x5 < (x0.length : Int) then (if 0 ≤ x5 then (if (rdOf ByteArray.empty x0 x5).toList = x1.toList then (some true) else (spec_l06Has.l0 k x0 x1 (wrap64 (x5 + 1)))) else (none)) else (some false)
def spec_l06Has.f (k : Nat) (l0 : List ByteArray) (a1 : ByteArray) : Option (Bool) := spec_l06Has.l0 k l0 a1 0
theorem spec_l06Has.calls (k : Nat) (I : Option Addr) (c0 : Nat) (l0 : List ByteArray) (a1 : ByteArray) (r : Bool) (w : World) (hr0 : Kd.C Kd.string w I l0.length l0) (J : l0.length ≤ c0) (h : spec_l06Has.f k l0 a1 = some r) :
  Calls prog 82 #[.slice I l0.length c0, .string a1] w fun e w' => e = .returned (.bool r) ∧ Drawn0 w w' := by
 replace hr0 := aM hr0
 replace J := aM J
 have H := h
 clear h
 unfold spec_l06Has.f at H
 have H' := aM H
 clear H
 go_enter func82, ntmps82
 go_wp2
 go_loopg [5] k (fun kq M w' => ∃ (x5_1 : Int), M = .int .i64 x5_1 ∧ Aside0 (spec_l06Has.l0 kq l0 a1 x5_1 = some r) ∧ Aside0 (kq ≤ k) ∧ Drawn0 w w')
 case atStart => exact ⟨(0), (Z3), H', ⟨Nat.le_refl _⟩, Z9⟩
 case round =>
  clear H'
  obtain ⟨x5_1, rfl, HA, HK1, ⟨m1, rfl⟩⟩ := hrel
  cases gk with
  | zero => exact absurd HA.out (by simp [spec_l06Has.l0])
  | succ O =>
   have H := HA.out
   clear HA
   simp only [spec_l06Has.l0] at H
   by_cases c3 : x5_1 < (l0.length : Int)
   ·rw [if_pos c3] at H
    have U := decide_eq_true c3
    clear c3
    obtain ⟨c4, H⟩ := ifS H
    have aB := decide_eq_true c4
    clear c4
    by_cases c5 : (rdOf ByteArray.empty l0 x5_1).toList = a1.toList
    ·rw [if_pos c5] at H
     have X := beq_iff_eq.mpr c5
     have Y := bne_eq_false_iff_eq.mpr c5
     clear c5
     obtain rfl := oI H
     have s : 0 ≤ (x5_1 : Int) := of_decide_eq_true (Z4)
     have y : x5_1 < (l0.length : Int) := of_decide_eq_true (Z4)
     obtain ⟨Z, D, aA⟩ := Kd.at_string hr0.out x5_1 s y
     cases D
     replace s := eq_true s
     replace y := eq_true y
     go_wp2
     go_ret
     exact ⟨Z3, Z9⟩
    ·rw [if_neg c5] at H
     have X := beq_eq_false_iff_ne.mpr c5
     have Y := bne_iff_ne.mpr c5
     have H' := aM H
     clear H
     have s : 0 ≤ (x5_1 : Int) := of_decide_eq_true (Z4)
     have y : x5_1 < (l0.length : Int) := of_decide_eq_true (Z4)
     obtain ⟨Z, D, aA⟩ := Kd.at_string hr0.out x5_1 s y
     cases D
     replace s := eq_true s
     replace y := eq_true y
     go_wp2
     go_roundg O
     case measure => have := HK1.out; omega
     case rel => exact ⟨(wrap64 (x5_1 + 1)), (Z3), H', ⟨Z125⟩, Z9⟩
   ·rw [if_neg c3] at H
    have U := decide_eq_false c3
    clear c3
    obtain rfl := oI H
    go_wp2
    go_ret
    exact ⟨Z3, Z9⟩
def IsS98 (w0 W : World) (g : Nat) (f0 : ByteArray) (f1 : Int) (f2 : Int) (f3 : List (S109)) (f4 : List ByteArray) : Prop := ∃ s c3, ∃ y c4, W.heap[g]? = some (.cells #[.string f0, .int .i64 f1, .int .i64 f2, .slice s f3.length c3, .slice y f4.length c4] 98 (0, 0)) ∧ w0.heap.size ≤ g ∧ Kd.C k109 w0 s f3.length f3 ∧ Kd.C Kd.string w0 y f4.length f4
theorem IsS98.grown {w0 W : World} {g : Nat} {f0 : ByteArray} {f1 : Int} {f2 : Int} {f3 : List (S109)} {f4 : List ByteArray} {W1 : World} {row : Option Nat} (h : IsS98 w0 W g f0 f1 f2 f3 f4) (hw : W.grownBy W1 row) (hne : some g ≠ row) : IsS98 w0 W1 g f0 f1 f2 f3 f4 := by
 obtain ⟨s, c3, y, c4, hb, hg, D, I⟩ := h
 exact ⟨s, c3, y, c4, blk_grown hb hw hne, hg, D, I⟩
theorem IsS98.kept {w0 W : World} {g : Nat} {f0 : ByteArray} {f1 : Int} {f2 : Int} {f3 : List (S109)} {f4 : List ByteArray} {W1 : World} {S : Nat → Prop} (h : IsS98 w0 W g f0 f1 f2 f3 f4) (hk : Kept W W1 S) (hne : ¬ S g) : IsS98 w0 W1 g f0 f1 f2 f3 f4 := by
 obtain ⟨s, c3, y, c4, hb, hg, D, I⟩ := h
 exact ⟨s, c3, y, c4, blk_kept hb hk hne, hg, D, I⟩
theorem IsS98.below {w0 W : World} {g : Nat} {f0 : ByteArray} {f1 : Int} {f2 : Int} {f3 : List (S109)} {f4 : List ByteArray} {W1 : World} (h : IsS98 w0 W g f0 f1 f2 f3 f4) (hw : Below W.heap.size W W1) : IsS98 w0 W1 g f0 f1 f2 f3 f4 := h.grown (grown_of_below hw none) (Z174)
theorem IsS98.alloc {w0 W : World} {g : Nat} {f0 : ByteArray} {f1 : Int} {f2 : Int} {f3 : List (S109)} {f4 : List ByteArray} (h : IsS98 w0 W g f0 f1 f2 f3 f4) (o : Obj) : IsS98 w0 (W.alloc o) g f0 f1 f2 f3 f4 := h.below (below_alloc (Below.refl _ _) o)
theorem IsS98.drewN {w0 W : World} {g : Nat} {f0 : ByteArray} {f1 : Int} {f2 : Int} {f3 : List (S109)} {f4 : List ByteArray} (h : IsS98 w0 W g f0 f1 f2 f3 f4) (m : Nat) : IsS98 w0 (W.drewN m) g f0 f1 f2 f3 f4 := h
theorem IsS98.drew {w0 W : World} {g : Nat} {f0 : ByteArray} {f1 : Int} {f2 : Int} {f3 : List (S109)} {f4 : List ByteArray} (h : IsS98 w0 W g f0 f1 f2 f3 f4) : IsS98 w0 W.drew g f0 f1 f2 f3 f4 := h
theorem IsS98.at_ {w0 W : World} {g : Nat} {f0 : ByteArray} {f1 : Int} {f2 : Int} {f3 : List (S109)} {f4 : List ByteArray} {w' : World} {m : Nat} (hq : W.drewN m = w') (h : IsS98 w0 W g f0 f1 f2 f3 f4) : IsS98 w0 w' g f0 f1 f2 f3 f4 := by subst hq; exact IsS98.drewN h m
theorem IsS98.apart {w0 W : World} {g : Nat} {f0 : ByteArray} {f1 : Int} {f2 : Int} {f3 : List (S109)} {f4 : List ByteArray} {α : Type} {d : Kd α} {e : Nat} {base : Nat} {ok : Nat → Prop} {v : Value} {xs : List α} (h : IsS98 w0 W g f0 f1 f2 f3 f4) (ho : d.R e W base ok v xs) (ht : ∀ q, q ∈ e :: d.E → q ≠ 98) : d.R e W base (fun k => ok k ∧ k ≠ g) v xs := by
 obtain ⟨s, c3, y, c4, hb, hg, D, I⟩ := h
 exact Kd.R_types ho hb ht
theorem IsS98.own_ne {w0 W : World} {g : Nat} {f0 : ByteArray} {f1 : Int} {f2 : Int} {f3 : List (S109)} {f4 : List ByteArray} {α : Type} {d : Kd α} {e : Nat} {base : Nat} {ok : Nat → Prop} {v : Value} {xs : List α} (h : IsS98 w0 W g f0 f1 f2 f3 f4) (ho : d.R e W base ok v xs) (ht : e ≠ 98) : some g ≠ v.ownBlock := by
 obtain ⟨s, c3, y, c4, hb, hg, D, I⟩ := h
 exact Kd.R_ne ho hb ht
theorem IsS98.lt {w0 W : World} {g : Nat} {f0 : ByteArray} {f1 : Int} {f2 : Int} {f3 : List (S109)} {f4 : List ByteArray} (h : IsS98 w0 W g f0 f1 f2 f3 f4) : g < W.heap.size := by
 obtain ⟨s, c3, y, c4, hb, hg, D, I⟩ := h
 exact blk_lt hb
theorem IsS98.ge {w0 W : World} {g : Nat} {f0 : ByteArray} {f1 : Int} {f2 : Int} {f3 : List (S109)} {f4 : List ByteArray} (h : IsS98 w0 W g f0 f1 f2 f3 f4) : w0.heap.size ≤ g := by
 obtain ⟨s, c3, y, c4, hb, hg, D, I⟩ := h
 exact hg
theorem IsS98.far {w0 W : World} {g : Nat} {f0 : ByteArray} {f1 : Int} {f2 : Int} {f3 : List (S109)} {f4 : List ByteArray} {p : Addr} (h : IsS98 w0 W g f0 f1 f2 f3 f4) (hne : g ≠ p.block) (u : Value) : IsS98 w0 (W.setCell p u) g f0 f1 f2 f3 f4 := by
 obtain ⟨s, c3, y, c4, hb, hg, D, I⟩ := h
 exact ⟨s, c3, y, c4, blk_far hb hne u, hg, D, I⟩
theorem IsS98.set_0 {w0 W : World} {g : Nat} {f0 : ByteArray} {f1 : Int} {f2 : Int} {f3 : List (S109)} {f4 : List ByteArray} (h : IsS98 w0 W g f0 f1 f2 f3 f4) (x : ByteArray) : IsS98 w0 (W.setCell ⟨g, 0, none⟩ (.string x)) g x f1 f2 f3 f4 := by
 obtain ⟨s, c3, y, c4, hb, hg, D, I⟩ := h
 exact ⟨s, c3, y, c4, by simpa using blk_set hb 0 (.string x), hg, D, I⟩
theorem IsS98.set_1 {w0 W : World} {g : Nat} {f0 : ByteArray} {f1 : Int} {f2 : Int} {f3 : List (S109)} {f4 : List ByteArray} (h : IsS98 w0 W g f0 f1 f2 f3 f4) (x : Int) : IsS98 w0 (W.setCell ⟨g, 1, none⟩ (.int .i64 x)) g f0 x f2 f3 f4 := by
 obtain ⟨s, c3, y, c4, hb, hg, D, I⟩ := h
 exact ⟨s, c3, y, c4, by simpa using blk_set hb 1 (.int .i64 x), hg, D, I⟩
theorem IsS98.new (w0 W : World) (s : Option Addr) (c3 : Nat) (y : Option Addr) (c4 : Nat) (f0 : ByteArray) (f1 : Int) (f2 : Int) (f3 : List (S109)) (f4 : List ByteArray) (hB : Below w0.heap.size w0 W) (D : Kd.C k109 w0 s f3.length f3) (I : Kd.C Kd.string w0 y f4.length f4) : IsS98 w0 (W.alloc (.cells #[.string f0, .int .i64 f1, .int .i64 f2, .slice s f3.length c3, .slice y f4.length c4] 98)) W.heap.size f0 f1 f2 f3 f4 := ⟨s, c3, y, c4, by simpa using heap_alloc_new W _, hB.size, D, I⟩
def idxU (u : Int) : List S109 → Int → Int
 | [], _ => -1
 | m :: r, i => if m.f0 = u then i else idxU u r (i + 1)
theorem idxU_drop (u : Int) (l : List S109) (k : Nat) (h : k < l.length) : idxU u (l.drop k) k = if (rd_T109 l (k : Int)).f0 = u then (k : Int) else idxU u (l.drop (k + 1)) ((k + 1 : Nat) : Int) := by
 rw [List.drop_eq_getElem_cons h, idxU]
 have e : rd_T109 l (k : Int) = l[k] := by unfold rd_T109; simp [List.getD, List.getElem?_eq_getElem h]
 rw [e]; rfl
theorem mailIs (x y : Int) (z : ByteArray) (B : Nat) (u : Int) (w : World) (hB : B < w.heap.size) (hc : w.cell? ⟨B, 0, none⟩ = some (.int .i64 u)) :
  Calls prog 127 #[.agg #[.int .i64 x, .int .i64 y, .string z], .pointer (some ⟨B, 0, none⟩)] w fun e w' => e = .returned (.bool (x == u)) ∧ Below w.heap.size w w' := by
 have s : ∀ o, (w.alloc o).cell? ⟨B, 0, none⟩ = some (.int .i64 u) := fun o => (World.cell?_alloc_past _ _ _ hB).trans hc
 go_enter func127, ntmps127
 go_wp2
 go_ret
 exact ⟨by first | rfl | (simp; done) | (simp [*]; done), Z6⟩
theorem mailsIndex (A : Option Addr) (c : Nat) (l : List S109) (u : Int) (B : Nat) (w : World) (hC : Kd.C k109 w A l.length l) (hB : B < w.heap.size) (hc : w.cell? ⟨B, 0, none⟩ = some (.int .i64 u)) (hl : l.length ≤ 1099511627776) :
  Calls prog 124 #[.slice A l.length c, .func (.func 127) #[] #[.pointer (some ⟨B, 0, none⟩)]] w fun e w' => e = .returned (.int .i64 (idxU u l 0)) ∧ Below w.heap.size w w' := by
 have eg := enters_of func127 (Z18) rfl
 have HC := aM hC
 have HQ := aM hc
 clear hC hc
 go_enter func124, ntmps124
 go_wp2
 go_loopg [5, 8] l.length (fun gg _ D wr => ∃ kk : Nat, kk ≤ l.length ∧ l.length - kk ≤ gg ∧ D = .int .i64 kk ∧ Aside0 (Below w.heap.size w wr) ∧ Aside0 (idxU u l 0 = idxU u (l.drop kk) kk))
 case atStart => exact ⟨0, Nat.zero_le _, Z42, rfl, ⟨Below.refl _ w⟩, ⟨rfl⟩⟩
 case round =>
  obtain ⟨kk, hkk, hg, rfl, BW, AI⟩ := hrel
  by_cases hlt : kk < l.length
  ·have hltz : (kk : Int) < (l.length : Int) := by omega
   have I : 0 ≤ (kk : Int) := by omega
   obtain ⟨ad, e, s, hx1, y⟩ := at_T109 HC.out kk I hltz
   cases e
   simp only [Int.toNat_natCast] at s hx1 y
   replace s := (BW.out.cell (World.block_lt_of_cell? w _ s)).trans s
   replace hx1 := (BW.out.cell (World.block_lt_of_cell? w _ hx1)).trans hx1
   replace y := (BW.out.cell (World.block_lt_of_cell? w _ y)).trans y
   have hstep := idxU_drop u l kk hlt
   have hcall := mailIs (rd_T109 l (kk : Int)).f0 (rd_T109 l (kk : Int)).f1 (rd_T109 l (kk : Int)).f2 B u wr (Nat.lt_of_lt_of_le hB BW.out.size) ((BW.out.cell (p := ⟨B, 0, none⟩) hB).trans HQ.out)
   by_cases hq : (rd_T109 l (kk : Int)).f0 = u
   ·rw [if_pos hq] at hstep
    rw [show ((rd_T109 l (kk : Int)).f0 == u) = true from beq_iff_eq.mpr hq] at hcall
    have HS := aM hstep
    clear hstep hq
    go_wp2_with (go_at_call 127; refine hcall.mono ?_; rintro e w' ⟨rfl, hb'⟩)
    go_ret
    exact ⟨by rw [AI.out, HS.out]; rfl, Below.trans BW.out (hb'.mono BW.out.size)⟩
   ·rw [if_neg hq] at hstep
    rw [show ((rd_T109 l (kk : Int)).f0 == u) = false from beq_eq_false_iff_ne.mpr hq] at hcall
    have HS := aM hstep
    clear hstep hq
    go_wp2_with (go_at_call 127; refine hcall.mono ?_; rintro e w' ⟨rfl, hb'⟩)
    go_roundg (l.length - (kk + 1))
    case measure => omega
    case rel => exact ⟨kk + 1, Z42, Z42, by go_num, ⟨Below.trans BW.out (hb'.mono BW.out.size)⟩, ⟨AI.out.trans HS.out⟩⟩
  ·have hltz : ¬ (kk : Int) < (l.length : Int) := by omega
   obtain rfl : kk = l.length := by omega
   go_wp2
   go_ret
   exact ⟨Z205, BW.out⟩
def impl_Box_mailIndex.f (y : ByteArray) (D I : Int) (s : List S109) (J : List ByteArray) (u : Int) : Option (Int × ByteArray × Int × Int) := if s.length ≤ 1099511627776 then some (idxU u s 0, y, D, I) else none
theorem impl_Box_mailIndex.calls (g : Nat) (I : ByteArray) (J M : Int) (s : List S109) (y : List ByteArray) (u : Int) (r : Int) (O : ByteArray) (U X : Int) (w0 w : World) (hI : IsS98 w0 w g I J M s y) (hB : Below w0.heap.size w0 w) (h : impl_Box_mailIndex.f I J M s y u = some (r, O, U, X)) :
  Calls prog 123 #[.pointer (some ⟨g, 0, none⟩), .int .i64 u] w fun e w' => e = .returned (.int .i64 r) ∧ IsS98 w0 w' g O U X s y ∧ Below w0.heap.size w0 w' ∧ KeepBut w w' g none := by
 unfold impl_Box_mailIndex.f at h
 by_cases hl : s.length ≤ 1099511627776
 ·rw [if_pos hl] at h
  simp only [Option.some.injEq, Prod.mk.injEq] at h
  obtain ⟨rfl, rfl, rfl, rfl⟩ := h
  have HI := aM hI
  have HB := aM hB
  have hlt := hI.lt
  obtain ⟨D, c3, A4, c4, hb, hge, Y, Z⟩ := hI
  have hC : Kd.C k109 w D s.length s := Kd.C_below Y hB
  have HC := aM (Kd.C_alloc hC (.cells #[.int .i64 u] 3))
  have aB : (w.alloc (.cells #[.int .i64 u] 3)).cell? ⟨g, 3, none⟩ = some (.slice D s.length c3) := (World.cell?_alloc_past _ _ _ hlt).trans ((blk_cell hb 3).trans rfl)
  clear hb Y Z hC hB
  go_enter func123, ntmps123
  go_wp2_with (go_at_call 124; refine (mailsIndex D c3 s u w.heap.size _ HC.out (Z174) (by simp [go_sem]) hl).mono ?_; rintro e w' ⟨rfl, hb'⟩)
  go_ret
  have B' : Below w.heap.size w w' := Below.trans (Below.alloc (Below.refl _ _) (Nat.le_refl _) _) (hb'.mono (Z174))
  exact ⟨rfl, HI.out.below B', Below.trans HB.out (B'.mono HB.out.size), ⟨B'.size, fun k hk _ _ => B'.block k hk⟩⟩
 ·rw [if_neg hl] at h; cases h
end Go.Proofs.YtifkmkiljpeaaacGreat.PFnExactWorldOK
