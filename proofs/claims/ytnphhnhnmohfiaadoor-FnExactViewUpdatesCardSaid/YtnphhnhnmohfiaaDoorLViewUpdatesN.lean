/- ViewUpdates: the law is true. Plain. -/
import Derived.Test.YtnphhnhnmohfiaaDoorLViewUpdatesM
import Derived.Test.YtnphhnhnmohfiaaDoorPFnExactViewUpdatesx12
set_option linter.unusedVariables false
set_option linter.unusedSimpArgs false
namespace Go.Proofs.YtnphhnhnmohfiaaDoor.PFnExactViewUpdates
open Go.RowKit Go.Proofs.YtnphhnhnmohfiaaDoorW.PrintWords
/-- The law's answer: true. -/
theorem law_true (n : ByteArray) (v x : Int) (l : List S64) (ks : List ByteArray) (vw : List Int) (hn : n.size ≤ maxLen) (hl : l.length ≤ maxLen) (hx : ∀ y ∈ l, y.f2.size ≤ maxLen) (hk : ks.length ≤ maxLen) (hs : ∀ t ∈ ks, t.size ≤ maxLen) : Ev (fun k => laws_FnExactViewUpdates.f k n v x l ks vw) true := by
  unfold laws_FnExactViewUpdates.f
  by_cases hv : (vw.length : Int) > 1048576
  · exact ev_pos hv (ev_some rfl)
  obtain ⟨z, hz, hz1, hz2⟩ := szBox_ev n v x l ks hn hl hx hk hs 1048576 (by omega) (by omega)
  refine ev_neg hv (Ev.bind hz ?_)
  by_cases h0 : z < 0
  · exact ev_pos h0 (ev_some rfl)
  obtain ⟨hn2, hl2, hk2, -, -⟩ := hz2 (by omega)
  have hc := toBox_ev n v x l ks (by omega) (by omega)
  have hi := toIntS_ev vw (by omega)
  obtain ⟨o, g, c, r1, r2, r3⟩ := all_both n v x (l.map toS) ks (by omega) vw
  have hg := eqIntS_refl g (by omega)
  have hlm : (l.map toS).length ≤ 1099511627776 := by rw [List.length_map]; omega
  have he := eqBox_refl n v x (l.map toS) ks hlm (by omega)
  obtain ⟨ms, mk, hm1⟩ := markBox_ev n v x (l.map toS) ks 1 (by omega) (by rw [List.length_map]; omega)
  obtain ⟨mi, hi1, -, -⟩ := markIntS_ev vw (1 + 3 * (l.map toS).length + ks.length) (by omega) (by rw [List.length_map]; omega)
  obtain ⟨gs, hg1, hg2, hg3⟩ := markIntS_ev g 1 (by omega) (by omega)
  have hh := heldIntS_ev gs 1 (by omega) (by omega) hg3
  rw [hg2] at hh
  refine ev_neg h0 (Ev.bind hc (Ev.bind hi (Ev.bind r1 (Ev.bind hc (Ev.bind hi (Ev.bind r2 (ev_pos rfl (Ev.bind hg (ev_pos rfl ?_)))))))))
  simp only [bne_self_eq_false]
  refine Ev.step (fun _ => laws_FnExactViewUpdates.j0.eq_2 ..) (ev_neg (by simp) (Ev.bind hc (Ev.bind he (ev_pos rfl (Ev.bind hi (Ev.bind (eqIntS_refl vw (by omega)) (ev_pos rfl (Ev.bind hm1 (Ev.bind hi1 (ev_neg (by simp only; omega) (ev_pos rfl (Ev.bind hg (ev_pos rfl ?_)))))))))))))
  simp only [bne_self_eq_false]
  refine Ev.step (fun _ => laws_FnExactViewUpdates.j1.eq_2 ..) (ev_neg (by simp) (Ev.bind hg1 (Ev.bind hh (ev_neg (by omega) (ev_pos rfl (Ev.bind hc (Ev.bind hi (Ev.bind r2 (ev_pos rfl (Ev.bind hg (ev_pos rfl ?_)))))))))))
  simp only [bne_self_eq_false]
  exact Ev.step (fun _ => laws_FnExactViewUpdates.j2.eq_2 ..) (ev_neg (by simp) (Ev.bind hh (ev_neg (by omega) (ev_pos rfl (ev_some rfl)))))
end Go.Proofs.YtnphhnhnmohfiaaDoor.PFnExactViewUpdates
