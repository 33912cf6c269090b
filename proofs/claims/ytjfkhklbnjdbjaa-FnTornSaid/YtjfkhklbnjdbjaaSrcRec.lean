/- The reference's source: drawn bytes, a drawn record. -/
import Derived.Test.YtjfkhklbnjdbjaaSrc
import Derived.Laws.BytesArg
set_option linter.unusedVariables false
set_option linter.unusedSimpArgs false
set_option maxHeartbeats 8000000
set_option maxRecDepth 100000
namespace Go.Proofs.Ytjfkhklbnjdbjaa
open Go.RowKit

theorem info_byte : (Try.prog.info? 5).map (fun i => (i.zero, i.size, i.bytes)) = some (some (.int .u8 0), 1, 1) := by kernel_rfl

/-- At most m bytes, in memory from B on. -/
def BytesUpto (m B : Nat) (v : Value) (w : World) : Prop := ∃ zs, IsBytes w v zs ∧ zs.length ≤ m ∧ ∀ a n c, v = .slice (some a) n c → B ≤ a.block

theorem Src.grown {w0 wr w' : World} {S : SrcId} {N : Int} {row : Option Nat} (h : Src wr S N) (hg : wr.grownBy w' row) (h0 : S.b < w0.heap.size) (hv : ∀ a n c, S.zs ≠ [] → S.v = .slice (some a) n c → a.block < w0.heap.size) (hr : ∀ k, row = some k → w0.heap.size ≤ k) : Src w' S N :=
  h.keep (own := fun k => row = some k) ⟨hg.os, hg.tape, hg.output, hg.size, fun k hk ho => hg.block k hk (fun e => ho e.symm)⟩ (fun e => by have := hr _ e; omega)
    (fun a n c hz e e' => by have := hr _ e'; have := hv a n c hz e; omega)

theorem src_bytes (S : SrcId) (N : Int) (m : Nat) (w : World) (h : Src w S N) (hN : N < 1000000000) (hm : m ≤ 1000) :
    Calls Try.prog 55 #[S.ptr, .int .i64 m] w (Drawn S (N + 3 * (m + 1)) (BytesUpto m w.heap.size) w) := by
  obtain ⟨i0, hi, hz0, hz1, hz2⟩ := info_parts info_byte
  have hSb := h.lt
  have hSv : ∀ a n c, S.zs ≠ [] → S.v = .slice (some a) n c → a.block < w.heap.size := by obtain ⟨_, _, h, _⟩ := h; exact h.bytes.lt
  have HV := Lib.hid hSv
  clear hSv
  go_enter Try.func55, Try.ntmps55
  go_wp2_with fail
  have h1 : Src (w.alloc (.cells #[] 5)) S N := h.below ((Below.refl _ _).alloc (Nat.le_refl _) _)
  refine (src_next S N (m + 1) _ h1 (by omega) (by omega) (by omega)).mono ?_
  rintro e w1 ⟨_, rfl, ⟨x, rfl, hx0, hx1⟩, hs1, hk1⟩
  have hown0 : w1.ownsRow w.heap.size 5 1 (.slice (some ⟨w.heap.size, 0, none⟩) 0 0) 0 [] := own_keep (World.ownsRow_made w #[] 0 (Nat.le_refl _) (by decide) rfl) hk1 (by omega)
  have hk1' : Keep (· = S.b) w w1 := ((Keep.refl _ _).alloc _).trans hk1
  clear hk1 h1 h
  go_wp2
  go_loopw [5, 6] (fun v i wr => ∃ (k : Int) (zs : List Int), i = .int .i64 k ∧ 0 ≤ k ∧ zs.length + k = x ∧ wr.ownsRow w.heap.size 5 1 v zs.length (zs.map (Value.int .u8)) ∧ (∀ z ∈ zs, 0 ≤ z ∧ z ≤ 255) ∧ Src wr S (N + 3 * (zs.length + 1)) ∧ Keep (· = S.b) w wr)
    (fun _ i _ => (intOf i).toNat)
  case atStart => exact ⟨x, [], rfl, hx0, by simp, hown0, by simp, hs1.up (by simp), hk1'⟩
  case round =>
    obtain ⟨k, zs, rfl, hk, hlen, hown, hzs, hs, hkeep⟩ := hrel
    by_cases hpos : 0 < k
    · go_wp2_with fail
      refine (src_next S _ 256 _ hs (by omega) (by omega) (by omega)).mono ?_
      rintro e w2 ⟨_, rfl, ⟨y, rfl, hy0, hy1⟩, hs2, hk2⟩
      have hown2 := own_keep hown hk2 (by omega)
      have hz2' := hkeep.size
      have hz3' := hk2.size
      go_wp2_with (at_builtin; refine wpList_append_own _ rfl _ _ 34 rfl w.heap.size 5 i0 (.int .u8 0) 1 1 Try.underlying34 hi hz0 hz1 hz2 rfl (by decide) _ _ _ rfl (hown2.alloc _) ⟨w2.heap.size, 0, none⟩ 1 1 [.int .u8 y] rfl rfl ?c1 ?c2 ?c3 ?c4 ?c5 ?_)
      case c1 =>
        intro j u hj
        match j, hj with
        | 0, hj => simp at hj; subst hj; simp [Addr.add, go_sem]
      case c2 => intro u hu; simp at hu; subst hu; rfl
      case c3 => unfold maxLen; omega
      case c4 => omega
      case c5 => simp; omega
      · intro v' w3 hown3 hgrow _
        have hr : ∀ g, u5.ownBlock = some g → w.heap.size ≤ g := fun g e => (hown2.lt g e).1
        have hSv := HV.out
        have hs3 : Src w3 S (N + 3 * (zs.length + 1) + 3) := (hs2.below ((Below.refl _ _).alloc (Nat.le_refl _) _)).grown hgrow hSb hSv hr
        have hk3 : Keep (· = S.b) w w3 := ((hkeep.trans hk2).alloc _).grown hgrow hr
        clear hSv hr
        go_wp2
        exact ⟨⟨k - 1, zs ++ [y], rfl, by omega, by simp; omega, by simpa using hown3, by simp; rintro z (h | rfl); exact hzs z h; omega, hs3.up (by simp; omega), hk3⟩, by simp [intOf]; omega⟩
    · obtain rfl : k = 0 := by omega
      go_wp2
      go_ret
      obtain ⟨hb, ha⟩ := IsBytes.of_own hown hzs
      exact ⟨_, rfl, ⟨zs, hb, by omega, ha⟩, hs.up (by omega), hkeep⟩

/-- A record: a text of 1 to 21 bytes. -/
def ARecord (v : Value) (_ : World) : Prop := ∃ t : ByteArray, v = .string t ∧ 1 ≤ t.size ∧ t.size ≤ 21

set_option maxRecDepth 100000 in
theorem src_record (S : SrcId) (N : Int) (w : World) (h : Src w S N) (hN : N < 100000000) :
    Calls Try.prog 37 #[S.ptr] w (Drawn S (N + 100) ARecord w) := by
  go_enter Try.func37, Try.ntmps37
  go_wp2_with fail
  refine (src_bytes S N 20 _ h (by omega) (by omega)).mono ?_
  rintro e w1 ⟨v, rfl, ⟨zs, hb, hl, ha⟩, hs1, hk1⟩
  have hcv := conv_bytes (P := Try.prog) hb 34 5 9 Try.underlying34 Try.underlying5 Try.underlying9
  obtain ⟨t, ht, hcw⟩ : ∃ t : ByteArray, t.size = zs.length ∧ (convert 34 9 v).run Try.prog w1 = .ok (.string t) w1 := ⟨_, strOfNums_size zs, hcv⟩
  have hsz : ¬ 9223372036854775807 < t.size + 1 := by omega
  have HZ := Lib.hid ht
  clear ht ha hb hcv
  go_wp2_with fail
  refine (src_pick S _ _ [⟨#[111, 110, 101]⟩, ⟨#[114, 101, 99, 111, 114, 100, 32, 116, 119, 111]⟩, ⟨#[120]⟩, ⟨#[0, 0]⟩, t ++ ⟨#[46]⟩] _ (hs1.below ((Below.refl _ _).alloc (Nat.le_refl _) _)) (by omega) (IsStrs.new _ _ _ _ _ _ (by simp [maxLen]) rfl rfl) (by simp) (by simp) (by rintro a n c e; cases e; exact Nat.ne_of_gt hs1.lt)).mono ?_
  rintro e w2 ⟨_, rfl, ⟨x, rfl, hx⟩, hs2, hk2⟩
  go_wp2
  go_ret
  refine ⟨_, rfl, ⟨x, rfl, ?_⟩, hs2.up (by omega), (hk1.alloc _).trans hk2⟩
  have := HZ.out
  simp only [List.mem_cons, List.not_mem_nil, or_false] at hx
  rcases hx with rfl | rfl | rfl | rfl | rfl
  · decide
  · decide
  · decide
  · decide
  · have h46 : (⟨#[46]⟩ : ByteArray).size = 1 := rfl
    rw [ByteArray.size_append]
    omega

/-- A new source. -/
theorem src_new (v : Value) (zs : List Int) (w : World) (h : IsBytes w v zs) :
    Calls Try.prog 36 #[v] w fun e w' => ∃ b, e = .returned (.pointer (some ⟨b, 0, none⟩)) ∧ w.heap.size ≤ b ∧ Src w' ⟨b, v, zs⟩ 0 ∧ Below w.heap.size w w' := by
  have h' := Lib.hid h
  obtain ⟨_, hl, a, c, rfl, _⟩ := h
  unfold maxLen at hl
  go_enter Try.func36, Try.ntmps36
  go_wp2
  go_ret
  have hb : Below w.heap.size w (w.alloc (.cells #[.slice a zs.length c, .int .i64 0, .int .i64 (zs.length % 1000)] 84)) := (Below.refl _ _).alloc (Nat.le_refl _) _
  refine ⟨_, rfl, Nat.le_refl _, ⟨0, _, ⟨by simp, World.cell?_alloc_at _ _ _ _ rfl, h'.out.below hb, ?_, World.cell?_alloc_at _ _ _ _ rfl, World.cell?_alloc_at _ _ _ _ rfl, World.frozen?_alloc_at _ _ _ _ rfl, World.frozen?_alloc_at _ _ _ _ rfl, by omega, by omega, by omega⟩, by omega⟩, hb⟩
  intro x n c hz e
  have := h'.out.lt x n c hz e
  exact Nat.ne_of_lt this

/-- A drawn record: a text of 1 to 21 bytes, in memory that was not there. -/
theorem s_RecordOf (v : Value) (zs : List Int) (w : World) (h : IsBytes w v zs) :
    Calls Try.prog 15 #[v] w fun e w' => ∃ t : ByteArray, e = .returned (.string t) ∧ 1 ≤ t.size ∧ t.size ≤ 21 ∧ Below w.heap.size w w' := by
  go_enter Try.func15, Try.ntmps15
  go_wp2_with fail
  refine (src_new v zs w h).mono ?_
  rintro e w1 ⟨b, rfl, hb, hs, hb1⟩
  go_wp2_with fail
  refine (src_record ⟨b, v, zs⟩ 0 w1 hs (by omega)).mono ?_
  rintro e w2 ⟨_, rfl, ⟨t, rfl, h1, h2⟩, hs2, hk2⟩
  go_wp2
  go_ret
  exact ⟨t, rfl, h1, h2, Keep.after hb1 hk2 (fun k hk (e : k = b) => by omega) hb1.size⟩

end Go.Proofs.Ytjfkhklbnjdbjaa
