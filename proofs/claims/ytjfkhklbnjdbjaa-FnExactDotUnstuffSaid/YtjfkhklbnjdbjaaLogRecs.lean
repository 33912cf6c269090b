/- A log's records: the program's and the reference's reading of them are one. -/
import Derived.Test.YtjfkhklbnjdbjaaLogFrame
import Derived.Test.YtjfkhklbnjdbjaaLogA
import Derived.WalkSpells
set_option linter.unusedVariables false
set_option linter.unusedSimpArgs false
set_option maxHeartbeats 8000000
set_option maxRecDepth 100000
namespace Go.Proofs.Ytjfkhklbnjdbjaa
open Go.RowKit

theorem info_str : (Try.prog.info? 9).map (fun i => (i.zero, i.size, i.bytes)) = some (some (.string ⟨#[]⟩), 1, 16) := by kernel_rfl

theorem str_HasPrefix (s p : Bytes) (w : World) (hs : s.length ≤ 9223372036854775807) : Calls Try.prog 32 #[.string (bs s), .string (bs p)] w fun e w' => e = .returned (.bool (p.isPrefixOf s)) ∧ w = w' := by
  by_cases hl : p.length ≤ s.length
  · go_enter Try.func32, Try.ntmps32
    go_wp2
    go_ret
    exact ⟨ret_b (prefix_take p s hl), rfl⟩
  · go_enter Try.func32, Try.ntmps32
    go_wp2
    go_ret
    refine ⟨ret_b ?_, rfl⟩
    symm
    rw [← Bool.not_eq_true, List.isPrefixOf_iff_prefix]
    intro h
    exact hl h.length_le

/-- The records, read on from a place. -/
theorem recs_from {d : Bytes} {at_ : Nat} {acc : List Bytes} (h : recs d = (acc ++ (recs (d.drop at_)).1, at_ + (recs (d.drop at_)).2.1, (recs (d.drop at_)).2.2)) {r : Bytes} (hr : recAt (d.drop at_) = .inr r) :
    recs d = ((acc ++ [r]) ++ (recs (d.drop (at_ + (7 + r.length)))).1, at_ + (7 + r.length) + (recs (d.drop (at_ + (7 + r.length)))).2.1, (recs (d.drop (at_ + (7 + r.length)))).2.2) := by
  have hl := recAt_len hr
  rw [h, recs_next (by intro e; rw [e] at hl; simp at hl) hr, List.drop_drop]
  simp only [List.append_assoc, List.singleton_append, Prod.mk.injEq, true_and, Nat.add_assoc, and_self]
theorem recs_at_end {d : Bytes} {at_ : Nat} {acc : List Bytes} (h : recs d = (acc ++ (recs (d.drop at_)).1, at_ + (recs (d.drop at_)).2.1, (recs (d.drop at_)).2.2)) (ht : d.drop at_ = []) : recs d = (acc, at_, 0) := by
  rw [h, ht]; simp [recs_nil]
theorem recs_at_stop {d : Bytes} {at_ : Nat} {acc : List Bytes} (h : recs d = (acc ++ (recs (d.drop at_)).1, at_ + (recs (d.drop at_)).2.1, (recs (d.drop at_)).2.2)) (ht : d.drop at_ ≠ []) {c : Int} (hc : recAt (d.drop at_) = .inl c) : recs d = (acc, at_, c) := by
  rw [h, recs_stop ht hc]; simp

/-- What reading a log tells: its records in memory that was not there, how many bytes, the code. -/
def Recs (d : Bytes) (w : World) (e : Ending) (w' : World) : Prop :=
  ∃ v, e = .returned (.tuple #[v, .int .i64 (recs d).2.1, .int .i64 (recs d).2.2]) ∧ IsStrs w' v ((recs d).1.map bs) ∧ (∀ a n c, v = .slice (some a) n c → w.heap.size ≤ a.block) ∧ Below w.heap.size w w'

theorem recs_mk {d : Bytes} {w w' : World} {acc : List Bytes} {at_ : Nat} {c : Int} {v : Value} (h : recs d = (acc, at_, c)) (hown : w'.ownsRow (w.heap.size + 1) 9 1 v acc.length ((acc.map bs).map Value.string)) (hb : Below w.heap.size w w') : Recs d w (.returned (.tuple #[v, .int .i64 at_, .int .i64 c])) w' := by
  have ho := IsStrs.of_own (l := acc.map bs) (by simpa using hown)
  refine ⟨v, by rw [h], by rw [h]; exact ho.1, fun a n c e => by have := ho.2 a n c e; omega, hb⟩

theorem i_records (room sure : Int) (d : Bytes) (w : World) (hd : d.length ≤ 65000) : Calls Try.prog 40 #[logV room (bs d) sure] w (Recs d w) := by
  obtain ⟨i0, hi, hz0, hz1, hz2⟩ := info_parts info_str
  go_enter Try.func40, Try.ntmps40
  go_wp2
  go_loopw [5, 6] (fun v i wr => ∃ (acc : List Bytes) (at_ : Nat), i = .int .i64 at_ ∧ at_ ≤ d.length ∧ acc.length ≤ at_ ∧ recs d = (acc ++ (recs (d.drop at_)).1, at_ + (recs (d.drop at_)).2.1, (recs (d.drop at_)).2.2) ∧
      wr.ownsRow (w.heap.size + 1) 9 1 v acc.length ((acc.map bs).map Value.string) ∧ wr.cell? ⟨w.heap.size, 1, none⟩ = some (.string (bs d)) ∧ Below w.heap.size w wr) (fun _ i _ => d.length - (intOf i).toNat)
  case atStart => exact ⟨[], 0, rfl, by omega, by simp, by simp, by have := World.ownsRow_made (base := w.heap.size + 1) (size := 1) (e := 9) (w.alloc (.cells #[.int .i64 room, .string (bs d), .int .i64 sure] 25)) #[] 0 (by simp) (by decide) rfl; simpa using this, by simp [go_sem], by (repeat (first | exact Below.refl _ _ | (refine Below.alloc ?_ (by first | omega | (simp only [World.size_alloc, World.size_setCell, World.size_drew, size_drewN]; omega)) _) | (refine Below.setCell ?_ (by first | omega | (simp only [World.size_alloc, World.size_setCell, World.size_drew, size_drewN]; omega)) _) | refine Below.drew ?_ | refine below_drewN ?_ _ | (refine Below.trans ?_ (Below.mono (by assumption) (by first | omega | (simp only [World.size_alloc, World.size_setCell, World.size_drew, size_drewN]; omega))))))⟩
  case round =>
    obtain ⟨acc, at_, rfl, hat, hal, hrec, hown, hcell, hbel⟩ := hrel
    have hzl := hbel.size
    have HR := Lib.hid hrec
    clear hrec
    by_cases hlt : at_ < d.length
    · have hne : d.drop at_ ≠ [] := by intro e; have := congrArg List.length e; simp at this; omega
      by_cases h7 : d.length - at_ < 7
      · have hra : recAt (d.drop at_) = .inl 18 := by unfold recAt; rw [if_pos (by simpa using h7)]
        have hd7 : decide ((↑(d.length - at_) : Int) < 7) = true := by simp; omega
        have HE := Lib.hid (recs_at_stop HR.out hne hra)
        clear hne hra HR
        go_wp2
        go_ret3
        exact recs_mk HE.out hown hbel
      · have hd7 : decide ((↑(d.length - at_) : Int) < 7) = false := by simp; omega
        go_wp2_with fail
        refine (i_numberOf _ _ (by simp; omega)).mono ?_
        rintro e w1 ⟨rfl, rfl⟩
        go_wp2_with fail
        refine (i_in _ _ _ _).mono ?_
        rintro e w1 ⟨rfl, rfl⟩
        by_cases hin : inB (numL ((d.drop at_).take 3)) 1 20000 = false
        · have hra : recAt (d.drop at_) = .inl 8 := by unfold recAt; rw [if_neg (by simpa using h7), if_pos hin]
          have HE := Lib.hid (recs_at_stop HR.out hne hra)
          clear hne hra HR
          go_wp2
          go_ret3
          exact recs_mk HE.out hown hbel
        · have hin' := Bool.not_eq_false _ ▸ hin
          have hnr := inB_iff.mp hin'
          by_cases hshort : d.length - at_ < 7 + numL ((d.drop at_).take 3)
          · have hra : recAt (d.drop at_) = .inl 18 := by unfold recAt; rw [if_neg (by simpa using h7), if_neg hin, if_pos (by simpa using hshort)]
            have HE := Lib.hid (recs_at_stop HR.out hne hra)
            clear hne hra HR hin
            generalize numL ((d.drop at_).take 3) = n at *
            have hds : decide ((↑(d.length - at_) : Int) < 7 + (n : Int)) = true := by simp; omega
            go_wp2
            go_ret3
            exact recs_mk HE.out hown hbel
          · have hra : recAt (d.drop at_) = if (frameL (((d.drop at_).drop 7).take (numL ((d.drop at_).take 3)))).isPrefixOf (d.drop at_) then .inr (((d.drop at_).drop 7).take (numL ((d.drop at_).take 3))) else .inl 8 := by
              unfold recAt; rw [if_neg (by simpa using h7), if_neg hin, if_neg (by simpa using hshort)]
            have HA := Lib.hid hra
            clear hra hin
            generalize numL ((d.drop at_).take 3) = n at *
            have hds : decide ((↑(d.length - at_) : Int) < 7 + (n : Int)) = false := by simp; omega
            have hb1 : (7 : Int) ≤ 7 + (n : Int) := by omega
            have hb2 : 7 + (n : Int) ≤ ↑(d.length - at_) := by omega
            have ht : ((d.drop at_).drop 7).take n = List.drop 7 (List.take (7 + n) (List.drop at_ d)) := by rw [List.drop_take]; congr 1; omega
            have hlr : (List.drop 7 (List.take (7 + n) (List.drop at_ d))).length = n := by simp; omega
            have HA' : Hid (recAt (d.drop at_) = if (frameL (List.drop 7 (List.take (7 + n) (List.drop at_ d)))).isPrefixOf (d.drop at_) then .inr (List.drop 7 (List.take (7 + n) (List.drop at_ d))) else .inl 8) := by have := HA.out; rw [ht] at this; exact this
            clear ht HA
            have HN := Lib.hid hne
            clear hne
            go_wp2_with fail
            generalize List.drop 7 (List.take (7 + n) (List.drop at_ d)) = r at *
            have HL := Lib.hid hlr
            clear hlr
            refine (i_recordBytes r _ (by have := HL.out; omega)).mono ?_
            rintro e w1 ⟨rfl, hb1'⟩
            have hzl1 := hb1'.size
            have hcell1 : w1.cell? ⟨w.heap.size, 1, none⟩ = some (.string (bs d)) := by rw [hb1'.cell (p := ⟨w.heap.size, 1, none⟩) (World.block_lt_of_cell? _ _ hcell)]; exact hcell
            have hown1 : w1.ownsRow (w.heap.size + 1) 9 1 u5 acc.length ((acc.map bs).map Value.string) := own_keep hown (Keep.of_below (own := fun _ => False) hb1' (Nat.le_refl _)) (by simp)
            have hbel1 : Below w.heap.size w w1 := hbel.trans (hb1'.mono hzl)
            clear hb1' hown hcell hbel
            go_wp2_with fail
            refine (str_HasPrefix _ _ _ (by simp; omega)).mono ?_
            rintro e w2 ⟨rfl, rfl⟩
            cases hpf : (frameL r).isPrefixOf (d.drop at_) with
            | false =>
              have hra : recAt (d.drop at_) = .inl 8 := by rw [HA'.out, hpf]; rfl
              have HE := Lib.hid (recs_at_stop HR.out HN.out hra)
              clear hra HR HA'
              go_wp2
              go_ret3
              exact recs_mk HE.out hown1 hbel1
            | true =>
              have hra : recAt (d.drop at_) = .inr r := by rw [HA'.out, hpf]; rfl
              have HE := Lib.hid (recs_from HR.out hra)
              clear hra HR HA'
              go_wp2_with (at_builtin; refine wpList_append_own _ rfl _ _ 36 rfl (w.heap.size + 1) 9 i0 (.string ⟨#[]⟩) 1 16 Try.underlying36 hi hz0 hz1 hz2 rfl (by decide) _ _ _ rfl (hown1.alloc _) ⟨w1.heap.size, 0, none⟩ 1 1 [.string (bs r)] rfl rfl ?c1 ?c2 ?c3 ?c4 ?c5 ?_)
              case c1 =>
                intro j u hj
                match j, hj with
                | 0, hj => simp at hj; subst hj; simp [Addr.add, go_sem]
              case c2 => intro u hu; simp at hu; subst hu; rfl
              case c3 => unfold maxLen; omega
              case c4 => omega
              case c5 => have := World.block_lt_of_cell? _ _ hcell1; simp at this ⊢; omega
              · intro v' w3 hown3 hgrow _
                have hlt3 := World.block_lt_of_cell? _ _ hcell1
                have hb3 : Below w.heap.size w w3 := ((hbel1.alloc (by omega) _).grown hgrow (by simp; omega) (fun g e => by have := (hown1.lt g e).1; omega))
                have hcell3 : w3.cell? ⟨w.heap.size, 1, none⟩ = some (.string (bs d)) := hgrow.cell (by rw [World.cell?_alloc_past _ _ _ hlt3]; exact hcell1) (fun e => by have := (hown1.lt _ e.symm).1; dsimp only at this; omega)
                have hnl := HL.out
                clear hlt3
                go_wp2
                exact ⟨⟨acc ++ [r], at_ + (7 + r.length), int_eq (by omega), by omega, by simp; omega, HE.out, by simpa using hown3, hcell3, hb3⟩, by simp [intOf]; omega⟩
    · have hdn : d.drop at_ = [] := List.drop_of_length_le (by omega)
      have HE := Lib.hid (recs_at_end HR.out hdn)
      clear hdn HR
      go_wp2
      go_ret3
      exact recs_mk HE.out hown hbel

end Go.Proofs.Ytjfkhklbnjdbjaa
