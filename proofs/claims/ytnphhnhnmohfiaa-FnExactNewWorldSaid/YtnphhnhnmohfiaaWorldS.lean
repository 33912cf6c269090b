/- The reference's NewWorld, and the program's. -/
import Derived.Test.YtnphhnhnmohfiaaWorldNew
set_option linter.unusedVariables false
set_option linter.unusedSimpArgs false
set_option maxHeartbeats 8000000
set_option maxRecDepth 100000
namespace Go.Proofs.Ytnphhnhnmohfiaa
open Go.RowKit

theorem s_NewWorld (r : Int) (w : World) : Calls Try.prog 5 #[.int .i64 r] w fun e w' => IsNew r w.heap.size e w' ∧ Below w.heap.size w w' := by
  cases h : inB r 0 60000
  · go_enter Try.func5, Try.ntmps5
    go_wp2_with fail
    refine (s_in _ _ _ _).mono ?_
    rintro e w1 ⟨rfl, rfl⟩
    rw [h]
    go_wp2
    refine bodyPost_ret (v := .tuple #[.agg #[_, _, _, _, _], _]) (by simp [results, Try.results5, go_sem, *] <;> (repeat' (first | exact rfl | apply And.intro))) rfl ⟨?_, by (repeat (first | exact Below.refl _ _ | (refine Below.alloc ?_ (by first | omega | (simp only [World.size_alloc, World.size_setCell, World.size_drew, size_drewN]; omega)) _) | (refine Below.setCell ?_ (by first | omega | (simp only [World.size_alloc, World.size_setCell, World.size_drew, size_drewN]; omega)) _) | refine Below.drew ?_ | refine below_drewN ?_ _ | (refine Below.trans ?_ (Below.mono (by assumption) (by first | omega | (simp only [World.size_alloc, World.size_setCell, World.size_drew, size_drewN]; omega))))))⟩
    rw [IsNew, if_neg (by simp [h])]
  · go_enter Try.func5, Try.ntmps5
    go_wp2_with fail
    refine (s_in _ _ _ _).mono ?_
    rintro e w1 ⟨rfl, rfl⟩
    rw [h]
    go_wp2_with fail
    refine (s_l15New _ _).mono ?_
    rintro e w2 ⟨a, b, rfl, hlb, hC, hb2⟩
    obtain ⟨hc2, hf2, hz2⟩ := bcall hb2
    simp only [World.size_alloc] at hlb hz2
    have hne : ¬ w.heap.size = b := by omega
    go_wp2
    refine bodyPost_ret (v := .tuple #[.agg #[_, _, _, _, _], _]) (by simp [results, Try.results5, go_sem, *] <;> (repeat' (first | exact rfl | apply And.intro))) rfl ⟨?_, by (repeat (first | exact Below.refl _ _ | (refine Below.alloc ?_ (by first | omega | (simp only [World.size_alloc, World.size_setCell, World.size_drew, size_drewN]; omega)) _) | (refine Below.setCell ?_ (by first | omega | (simp only [World.size_alloc, World.size_setCell, World.size_drew, size_drewN]; omega)) _) | refine Below.drew ?_ | refine below_drewN ?_ _ | (refine Below.trans ?_ (Below.mono (by assumption) (by first | omega | (simp only [World.size_alloc, World.size_setCell, World.size_drew, size_drewN]; omega))))))⟩
    rw [IsNew, if_pos h]
    exact ⟨_, b, rfl, by omega, hC.keep (own := (· = w.heap.size)) (by (repeat (first | exact Keep.refl _ _ | (refine Keep.alloc ?_ _) | (refine Keep.setCell ?_ (by first | exact Or.inl rfl | (right; first | omega | (simp only [World.size_alloc, World.size_setCell, World.size_drew, size_drewN]; omega))) _) | refine Keep.drew ?_ | refine Keep.drewN ?_ _ | (refine Keep.trans ?_ (by assumption))))) (by omega)⟩
end Go.Proofs.Ytnphhnhnmohfiaa
