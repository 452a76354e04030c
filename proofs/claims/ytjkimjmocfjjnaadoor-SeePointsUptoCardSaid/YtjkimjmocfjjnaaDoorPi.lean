/- The table of bit places, as the rows list it. -/
import Derived.Test.YtjkimjmocfjjnaaDoorPc
import Derived.Test.YtjkimjmocfjjnaaDoorRows
import Derived.Lib.LaidTab
namespace Go.Proofs.YtjkimjmocfjjnaaDoor.Ab
open Go.RowKit
set_option linter.unusedVariables false
set_option linter.unusedSimpArgs false
set_option maxRecDepth 100000

/-- The tables that are laid: this one. -/
def tabG : Gl := fun g => if g = 1 then some tabV else none
theorem tabG_tab : tabG 1 = some tabV := by simp [tabG]
theorem tab_datum : (Rows.laid_math_bits_deBruijn64tab : DataW Unit) = Lib.tabData .u8 (tab.map fun (n : Nat) => (n : Int)) := by kernel_rfl
theorem tab_bare {W : World} {rest : List (String × DataW Unit)} (h : laidMet Tryd.prog (("math/bits.deBruijn64tab", Rows.laid_math_bits_deBruijn64tab) :: rest) W) :
    ∀ (g : Nat) (cs : List Value), tabG g = some cs → ∃ (c : Array Value) (t : TypeId) (fr : Nat × Nat), W.heap[g]? = some (.cells c t fr) ∧ ∀ (j : Nat) (v : Value), cs[j]? = some v → c[j]? = some v ∧ VR (fun _ => none) ⟨0, fun _ => none⟩ v v := by
  intro g cs hg
  rw [tab_datum] at h
  have hT : Lib.TabIs Tryd.prog W "math/bits.deBruijn64tab" .u8 (tab.map fun (n : Nat) => (n : Int)) :=
    Lib.tabIs_of_head (g := 1) (t := 164) (e := 5) (n := 64) (by kernel_rfl) (by kernel_rfl) (by kernel_rfl) (by kernel_rfl) (by kernel_rfl) (by kernel_rfl) h
  unfold tabG at hg
  split at hg
  · rename_i he
    subst he
    obtain rfl := Option.some.inj hg
    have hn : Tryd.prog.globalNamed "math/bits.deBruijn64tab" = some 1 := by kernel_rfl
    unfold Lib.TabIs World.var? at hT
    rw [hn, Option.bind_some] at hT
    split at hT
    · rename_i c t fr hc
      obtain rfl := Option.some.inj hT
      refine ⟨_, t, fr, hc, fun j v hj => ⟨?_, ?_⟩⟩
      · simp only [List.map_map, List.getElem?_toArray]; exact hj
      · obtain ⟨n, _, rfl⟩ := List.mem_map.1 (List.mem_of_getElem? hj)
        exact .int _ _
    · cases hT
  · cases hg
end Go.Proofs.YtjkimjmocfjjnaaDoor.Ab
