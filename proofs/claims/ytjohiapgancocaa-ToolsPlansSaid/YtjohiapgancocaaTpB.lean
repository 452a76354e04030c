/- Tools: what planning comes to, in plain terms. -/
import Derived.Test.YtjohiapgancocaaTpA
namespace Go.Proofs.Ytjohiapgancocaa.Ab
open Go.RowKit
set_option linter.unusedVariables false
set_option linter.unusedSimpArgs false

theorem ff_spec {l : List Us} {tool : Int} {long : Nat} : ∀ (n at_ : Nat), 0 ≤ ff l tool long at_ n → ∃ k : Nat, k < n ∧ ff l tool long at_ n = ((at_ + k : Nat) : Int) ∧ freeAt l tool long (at_ + k) = true
  | 0, at_, h => by simp [ff] at h
  | n + 1, at_, h => by
    rw [ff] at h ⊢
    by_cases hf : freeAt l tool long at_ = true
    · rw [if_pos hf]; exact ⟨0, by omega, rfl, hf⟩
    · rw [if_neg hf] at h ⊢
      obtain ⟨k, h1, h2, h3⟩ := ff_spec n (at_ + 1) h
      exact ⟨k + 1, by omega, by rw [h2]; congr 1; omega, by rw [show at_ + (k + 1) = at_ + 1 + k by omega]; exact h3⟩

theorem chkGo_snoc : ∀ (r s : List Us) (u : Us), chkGo s r = 0 → u.valid → (∀ v ∈ s ++ r, ¬ u.clash v) → chkGo s (r ++ [u]) = 0
  | [], s, u, _, hv, hn => by
    rw [List.nil_append, chkGo, if_neg (by simpa using hv), if_neg]
    · rfl
    · rintro ⟨v, hv, hc⟩; exact hn v (by simpa using hv) hc
  | w :: r, s, u, h, hv, hn => by
    rw [List.cons_append, chkGo]
    rw [chkGo] at h
    split at h
    · cases h
    · rename_i h1
      rw [if_neg h1]
      split at h
      · cases h
      · rename_i h2
        rw [if_neg h2]
        exact chkGo_snoc r (s ++ [w]) u h hv (fun v hv' => hn v (by simpa using hv'))
theorem chk_snoc {l : List Us} {u : Us} (h : chk l = 0) (hl : l.length < 60) (hv : u.valid) (hn : ∀ v ∈ l, ¬ u.clash v) : chk (l ++ [u]) = 0 := by
  rw [chk] at h ⊢
  rw [if_neg (by omega)] at h
  rw [if_neg (by simp; omega)]
  exact chkGo_snoc l [] u h hv (by simpa using hn)
/-- Where a tool is free, nothing clashes. -/
theorem free_clash {l : List Us} {q : Us} (hq : q.valid) (hf : freeAt l q.tool q.long.toNat q.from_.toNat = true) : ∀ v ∈ l, ¬ q.clash v := by
  intro v hv hc
  obtain ⟨⟨u1, u2, u3, u4, u5, u6⟩, ⟨v1, v2, v3, v4, v5, v6⟩, h1, h2, h3⟩ := hc
  rw [freeAt, List.all_eq_true] at hf
  have := hf (max 0 (v.from_ - q.from_)).toNat (by rw [List.mem_range]; omega)
  rw [Bool.not_eq_true', onTool, List.any_eq_false] at this
  refine this v hv ?_
  simp only [decide_eq_true_eq]
  exact ⟨h1.symm, by omega, by omega⟩

/-- When a task can begin at the earliest, by what comes before it. -/
def atOf (l : List Tk) (out : List Int) (xs : List Int) : Int := xs.foldl (fun m x => max m (out.getD x.toNat 0 + (l[x.toNat]?.map Tk.long).getD 0)) 0
def planGo (l : List Tk) : List Tk → List Int → List Us → List Int × Int
  | [], out, _ => (out, 0)
  | t :: r, out, used =>
    let a := atOf l out t.after
    if 2000 - t.long < a then ([], 19) else if 0 ≤ t.tool then
      let f := ff used t.tool t.long.toNat a.toNat (2001 - t.long - a).toNat
      if f < 0 then ([], 19) else planGo l r (out ++ [f]) (used ++ [⟨t.tool, f, t.long⟩])
    else planGo l r (out ++ [a]) used
def planR (l : List Tk) : List Int × Int := if taskE l ≠ 0 then ([], taskE l) else planGo l l [] []
end Go.Proofs.Ytjohiapgancocaa.Ab
