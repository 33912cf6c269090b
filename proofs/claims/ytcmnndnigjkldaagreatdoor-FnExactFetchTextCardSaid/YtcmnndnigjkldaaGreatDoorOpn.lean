/- Texts laid together: YtcmnndnigjkldaaGreatDoorOpens, YtcmnndnigjkldaaGreatDoorOpen, YtcmnndnigjkldaaGreatDoorOpenK. -/
import Derived.Test.YtcmnndnigjkldaaGreatDoorWMore
import Derived.Deep.Slices
import Derived.ChangeSame
import Derived.HandedShaped
import Derived.Test.YtcmnndnigjkldaaGreatDoorOwnA
import Derived.OpenShut
import Derived.ChangeOld
import Derived.Shelf.Vars
import Derived.SliceStrings
section
set_option linter.unusedVariables false
set_option linter.unusedSimpArgs false
namespace Go.Proofs.YtcmnndnigjkldaaGreatDoor
open Go.ChangeShapes Go.WideShapes Go.RowKit Go.Deep Go.Proofs.YtcmnndnigjkldaaGreatDoorW.PrintWords
section
variable {H : Type} {enc : TypeId × Value → H} {P : Program} {W : World}
/-- Whatever can be read at type t is of kind K, and B. -/
def Opens {α : Type} (enc : TypeId × Value → H) (P : Program) (W : World) (K : Kd α) (t : TypeId) (B : α → Prop) : Prop :=
  P.cellsOf t = K.sz ∧ ∀ n cs x, DataW.trod enc P W 0 (fun _ => true) true n t cs = some x → ∃ v, K.K W v cs ∧ B v
theorem opens_int {t : TypeId} {k : IntKind} (ht : P.underlying t = some (.int k)) (hc : P.cellsOf t = 1) : Opens enc P W (Kd.int k) t (fun n => (Lit.int k n).wf = true) :=
  ⟨hc, fun n cs x h => by obtain ⟨v, rfl, _, hw⟩ := DataW.trod_int ht h; exact ⟨v, rfl, hw⟩⟩
theorem opens_bool {t : TypeId} (ht : P.underlying t = some .bool) (hc : P.cellsOf t = 1) : Opens enc P W Kd.bool t (fun _ => True) :=
  ⟨hc, fun n cs x h => by obtain ⟨v, rfl, _⟩ := DataW.trod_bool ht h; exact ⟨v, rfl, trivial⟩⟩
theorem opens_string {t : TypeId} (ht : P.underlying t = some .string) (hc : P.cellsOf t = 1) : Opens enc P W Kd.string t (fun s => s.size ≤ maxLen) :=
  ⟨hc, fun n cs x h => by obtain ⟨v, rfl, _, hw⟩ := DataW.trod_string ht h; exact ⟨v, rfl, hw⟩⟩
theorem opens_iso {α β : Type} {K : Kd β} {f : α → β} {t : TypeId} {B : β → Prop} (h : Opens enc P W K t B) (g : β → α) (hg : ∀ y, f (g y) = y) : Opens enc P W (Kd.iso K f) t (fun x => B (f x)) :=
  ⟨h.1, fun n cs x hx => by obtain ⟨v, h1, h2⟩ := h.2 n cs x hx; exact ⟨g v, by show K.K W (f (g v)) cs; rw [hg]; exact h1, by show B (f (g v)); rw [hg]; exact h2⟩⟩
theorem Opens.weaken {α : Type} {K : Kd α} {t : TypeId} {B B' : α → Prop} (h : Opens enc P W K t B) (hb : ∀ x, B x → B' x) : Opens enc P W K t B' :=
  ⟨h.1, fun n cs x hx => by obtain ⟨v, h1, h2⟩ := h.2 n cs x hx; exact ⟨v, h1, hb v h2⟩⟩
/-- A struct's fields from one on. -/
def OpensF {α : Type} (enc : TypeId × Value → H) (P : Program) (W : World) (fs : List Field) (off : Nat) (K : Kd α) (B : α → Prop) : Prop :=
  ∀ (n : Nat) (cs : List Value), cs.length = off + K.sz → (∀ f, f ∈ fs → ∃ y, DataW.trod enc P W 0 (fun _ => true) true n f.type ((cs.drop f.offset).take (P.cellsOf f.type)) = some y) → ∃ v, K.K W v (cs.drop off) ∧ B v
theorem opensF_one {α : Type} {f : Field} {off : Nat} {K : Kd α} {B : α → Prop} (h : Opens enc P W K f.type B) (ho : f.offset = off) : OpensF enc P W [f] off K B := by
  intro n cs hl hf
  obtain ⟨y, hy⟩ := hf f (by simp)
  obtain ⟨v, h1, h2⟩ := h.2 n _ y hy
  rw [ho, h.1, List.take_of_length_le (by rw [List.length_drop]; omega)] at h1
  exact ⟨v, h1, h2⟩
theorem opensF_cons {α β : Type} {f : Field} {fs : List Field} {off : Nat} {K : Kd α} {K' : Kd β} {B : α → Prop} {B' : β → Prop} (h : Opens enc P W K f.type B) (ho : f.offset = off) (h' : OpensF enc P W fs (off + K.sz) K' B') :
    OpensF enc P W (f :: fs) off (Kd.pair K K') (fun x => B x.1 ∧ B' x.2) := by
  intro n cs hl hf
  have hs : (Kd.pair K K').sz = K.sz + K'.sz := rfl
  obtain ⟨y, hy⟩ := hf f (by simp)
  obtain ⟨v, h1, h2⟩ := h.2 n _ y hy
  obtain ⟨v', q1, q2⟩ := h' n cs (by omega) (fun g hg => hf g (List.mem_cons_of_mem _ hg))
  rw [ho, h.1] at h1
  refine ⟨(v, v'), ⟨_, _, ?_, h1, q1⟩, h2, q2⟩
  rw [← List.drop_drop, List.take_append_drop]
theorem opens_struct {α : Type} {t : TypeId} {fs : List Field} {K : Kd α} {B : α → Prop} (ht : P.underlying t = some (.struct fs.toArray)) (hc : P.cellsOf t = K.sz) (h : OpensF enc P W fs 0 K B) : Opens enc P W K t B := by
  refine ⟨hc, fun n cs x hx => ?_⟩
  obtain ⟨ys, m, _, _, hl, hlen, hf⟩ := DataW.trod_struct ht hx
  have := h m cs (by rw [hl, hc]; omega) (fun f hm => by
    obtain ⟨j, hj, rfl⟩ := List.getElem_of_mem hm
    have h1 := hf j fs[j] (by simp [List.getElem?_eq_getElem hj])
    have hys : j < ys.length := by rw [hlen]; simpa using hj
    rw [List.getElem?_eq_getElem hys] at h1
    exact ⟨_, h1⟩)
  simpa using this
theorem list_of {α : Type} {Q : Nat → α → Prop} : ∀ n, (∀ i, i < n → ∃ v, Q i v) → ∃ l : List α, l.length = n ∧ ∀ i p, l[i]? = some p → Q i p
  | 0, _ => ⟨[], rfl, fun i p h => by simp at h⟩
  | n + 1, h => by
    obtain ⟨l, hl, hq⟩ := list_of n (fun i hi => h i (by omega))
    obtain ⟨v, hv⟩ := h n (by omega)
    refine ⟨l ++ [v], by simp [hl], fun i p hp => ?_⟩
    by_cases hi : i < l.length
    · rw [List.getElem?_append_left hi] at hp; exact hq i p hp
    · rw [List.getElem?_append_right (by omega)] at hp
      have : i - l.length = 0 := by
        rcases Nat.eq_zero_or_pos (i - l.length) with h0 | h0
        · exact h0
        · rw [List.getElem?_eq_none (by simp; omega)] at hp; cases hp
      rw [this] at hp
      have hp : v = p := by simpa using hp
      subst hp
      rw [show i = n by omega]; exact hv
theorem opens_slice {α : Type} {t e : TypeId} {K : Kd α} {B : α → Prop} (ht : P.underlying t = some (.slice e)) (hc : P.cellsOf t = 1) (h : Opens enc P W K e B) (e' : Nat) :
    Opens enc P W (Kd.slice e' K) t (fun l => l.length ≤ maxLen ∧ ∀ x ∈ l, B x) := by
  refine ⟨hc, fun n cs x hx => ?_⟩
  rcases open_slice ht hx with ⟨rfl, _⟩ | ⟨a, len, cap, m, n', D, Pl, rfl, _, hl, hm, hmm, _, hi⟩
  · exact ⟨[], ⟨none, 0, rfl, by simp, Kd.C_nil _ _⟩, by simp, fun x hx => by cases hx⟩
  · have hlm : len ≤ m := by rw [hmm]; split <;> omega
    obtain ⟨l, hll, hq⟩ := list_of (Q := fun i v => ∃ cs', W.cells? 0 (a.add (i * P.cellsOf e)) (P.cellsOf e) = some cs' ∧ K.K W v cs' ∧ B v) len (fun i hlt => by
      obtain ⟨cs', h1, h2⟩ := hi i (by omega)
      obtain ⟨v, q1, q2⟩ := h.2 _ _ _ h2
      exact ⟨v, cs', h1, q1, q2⟩)
    have hmx : maxLen = 9223372036854775807 := by decide
    refine ⟨l, ⟨some a, cap, by rw [hll], by omega, ⟨rfl, by omega, fun _ => ⟨a, rfl, fun j p hp => ?_⟩⟩⟩, by omega, fun x hx => ?_⟩
    · obtain ⟨cs', h1, h2, _⟩ := hq j p hp
      obtain ⟨_, hlen, hat⟩ := World.cells?_some h1
      refine ⟨cs', by rw [hlen, h.1], h2, fun i u hu => ?_⟩
      have hi' : i < cs'.length := (List.getElem?_eq_some_iff.1 hu).1
      have := hat i (by omega)
      rw [← h.1, ← Go.Deep.add_add, this, hu]
    · obtain ⟨j, hj, rfl⟩ := List.getElem_of_mem hx
      obtain ⟨_, _, _, hb⟩ := hq j l[j] (List.getElem?_eq_getElem hj)
      exact hb
/-- A parameter, by its kind. -/
theorem Opens.at {α : Type} {K : Kd α} {t : TypeId} {B : α → Prop} (h : Opens enc P W K t B) {v : Value} {d : DataW H} {p : List MemPlace} (ht : DataW.Trod enc P W 0 (fun _ => true) true t v d p) : ∃ x, K.K W x v.cells.toList ∧ B x := by
  obtain ⟨fuel, hf⟩ := ht
  exact h.2 _ _ _ hf
end
end Go.Proofs.YtcmnndnigjkldaaGreatDoor
end
section
set_option linter.unusedVariables false
set_option linter.unusedSimpArgs false
namespace Go.Proofs.YtcmnndnigjkldaaGreatDoor
open Go.ChangeShapes Go.WideShapes Go.ChangeAt Go.RowKit
theorem wf_u8 {n : Int} (h : (Lit.int .u8 n).wf = true) : 0 ≤ n ∧ n ≤ 255 := by
  have := bounds_u8 h
  omega
theorem open_bytes {H : Type} {enc : TypeId × Value → H} {P : Program} {W : World} {t e : TypeId} (ht : P.underlying t = some (.slice e)) (he : P.underlying e = some (.int .u8)) (hc : P.cellsOf e = 1)
    {a : Option Addr} {len cap : Nat} {d : DataW H} {p : List MemPlace} (h : DataW.Trod enc P W 0 (fun _ => true) true t (.slice a len cap) d p) :
    ∃ zs, IsBytes W (.slice a len cap) zs ∧ ∀ n c, Value.slice a len cap = .slice none n c → c = 0 := by
  obtain ⟨fuel, hf⟩ := h
  rcases open_ints ht he hc hf with ⟨hcs, _⟩ | ⟨x, l, c, zs, hcs, _, hl, hm, hz, _, hcell, hwz⟩
  · simp [Value.cells] at hcs
    obtain ⟨rfl, rfl, rfl⟩ := hcs
    exact ⟨[], ⟨by simp, by simp, none, 0, rfl, fun h => absurd rfl h⟩, fun n c e => by cases e; rfl⟩
  · simp [Value.cells] at hcs
    obtain ⟨rfl, rfl, rfl⟩ := hcs
    have hz : zs.length = cap := by simpa using hz
    refine ⟨zs.take len, ⟨fun z hz' => wf_u8 (hwz z (List.mem_of_mem_take hz')), by simp; omega, some x, cap, by simp; omega, fun hne => ?_⟩, fun n c e => by cases e⟩
    have hlen : (zs.take len).length = len := by simp; omega
    have hpos : 0 < len := by rw [← hlen]; exact List.length_pos_iff.mpr hne
    obtain ⟨b, off, rfl, hcc⟩ := ints_at hcell (by omega)
    refine ⟨b, off, rfl, World.block_lt_of_cell? W _ (hcc 0 (by omega)), fun i hi => ?_⟩
    rw [hcc i (by omega)]
    rw [List.getD_eq_getElem?_getD, List.getD_eq_getElem?_getD, List.getElem?_take, if_pos (by omega)]
end Go.Proofs.YtcmnndnigjkldaaGreatDoor
end
section
set_option linter.unusedVariables false
set_option linter.unusedSimpArgs false
namespace Go.Proofs.YtcmnndnigjkldaaGreatDoor
open Go.ChangeShapes Go.WideShapes Go.ChangeAt Go.RowKit Go.Proofs.YtcmnndnigjkldaaGreatDoorW.PrintWords
theorem open_strC {H : Type} {enc : TypeId × Value → H} {P : Program} {W : World} {t e : TypeId} (ht : P.underlying t = some (.slice e)) (he : P.underlying e = some .string) (hc : P.cellsOf e = 1)
    {a : Option Addr} {len cap : Nat} {d : DataW H} {p : List MemPlace} (h : DataW.Trod enc P W 0 (fun _ => true) true t (.slice a len cap) d p) :
    ∃ l : List ByteArray, l.length = len ∧ len ≤ cap ∧ Kd.C Kd.string W a len l ∧ l.length ≤ maxLen ∧ ∀ t ∈ l, t.size ≤ maxLen := by
  obtain ⟨fuel, hf⟩ := h
  rcases open_strings ht he hc hf with ⟨hcs, _⟩ | ⟨x, l, c, ss, hcs, _, hl, hm, hz, _, hcell, hsz⟩
  · simp [Value.cells] at hcs
    obtain ⟨rfl, rfl, rfl⟩ := hcs
    exact ⟨[], rfl, by omega, Kd.C_nil _ _, by simp, by simp⟩
  · simp [Value.cells] at hcs
    obtain ⟨rfl, rfl, rfl⟩ := hcs
    have hz : ss.length = cap := by simpa using hz
    have hlen : (ss.take len).length = len := by simp; omega
    unfold maxLen at hm
    refine ⟨ss.take len, hlen, hl, Kd.C_of_reads (d := ByteArray.empty) (h1 := fun _ => rfl) ⟨hlen, by omega, fun h0 => ⟨x, rfl, fun j hj => ?_⟩⟩, by rw [hlen]; unfold maxLen; omega, fun t ht => hsz t (List.mem_of_mem_take ht)⟩
    rw [hcell j (by omega), List.getD_eq_getElem?_getD, List.getD_eq_getElem?_getD, List.getElem?_take, if_pos hj]
end Go.Proofs.YtcmnndnigjkldaaGreatDoor
end
