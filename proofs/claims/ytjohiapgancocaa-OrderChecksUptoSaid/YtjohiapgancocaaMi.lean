/- Orders: Pick and PickOf of any list. -/
import Derived.Test.YtjohiapgancocaaMh
namespace Go.Proofs.Ytjohiapgancocaa.Ab
open Go.RowKit
set_option linter.unusedVariables false
set_option linter.unusedSimpArgs false
set_option maxRecDepth 100000

def pkL (ls : List (List Int)) (bs : List Int) : List Int := if befF ls = 0 then pk ls bs ls.length else []
section
variable {G : Gl} {fl : Nat} {A : Hp}
theorem pickB_ok {v u : Value} {ls : List (List Int)} (h : Nst A v ls) (hmx : ∀ k, k < ls.length → (ls.getD k []).length ≤ 1048576) (hb0 : befF ls ≠ 0) :
    Sound Try.prog G 33 [v, u] fl A (.tuple [Value.slice none 0 0, .int .i64 (befF ls)].toArray) A := by
  refine Sound.of mixed Try.func33 Try.ntmps33 Try.results33 (by kernel_rfl) rfl (by kernel_rfl) (by kernel_rfl) fun hA => ?_
  have cc := fun fl => check_ok (G := G) (fl := fl) h (fun k hk => Nat.le_trans (hmx k hk) (by decide))
  have hb1 : decide (befF ls = 0) = false := decide_eq_false hb0
  simp only [↓R1, R2, R3, R4, TY, reduceIte, Nat.reduceEqDiff, Nat.reduceAdd, Nat.reduceMul, Nat.reduceLT, Nat.reduceLeDiff, reduceCtorEq, decide_true, decide_false, Int.reduceLE, Int.reduceLT, Int.reduceToNat, Int.reduceAdd, Int.reduceSub, Int.reduceMul, Int.reduceEq, FE, hb1, hb0]
  refine call_of (cc _) ?_
  simp only [↓R1, R2, R3, R4, TY, reduceIte, Nat.reduceEqDiff, Nat.reduceAdd, Nat.reduceMul, Nat.reduceLT, Nat.reduceLeDiff, reduceCtorEq, decide_true, decide_false, Int.reduceLE, Int.reduceLT, Int.reduceToNat, Int.reduceAdd, Int.reduceSub, Int.reduceMul, Int.reduceEq, FE, hb1, hb0]
  exact Ended.back hA (Xt.refl A) rfl (RB.tuple fun w hw => by
    simp only [List.mem_cons, List.not_mem_nil, or_false] at hw
    rcases hw with rfl | rfl
    · exact RB.sl0 _ _
    · exact RB.int _ _)
theorem pickOfB_ok {v u : Value} {ls : List (List Int)} (h : Nst A v ls) (hmx : ∀ k, k < ls.length → (ls.getD k []).length ≤ 1048576) (hb0 : befF ls ≠ 0) :
    Sound Try.prog G 34 [v, u] fl A (.tuple [Value.slice none 0 0, .int .i64 (befF ls)].toArray) A := by
  refine Sound.of mixed Try.func34 Try.ntmps34 Try.results34 (by kernel_rfl) rfl (by kernel_rfl) (by kernel_rfl) fun hA => ?_
  have cc := fun fl => bfault_ok (G := G) (fl := fl) h (fun k hk => Nat.le_trans (hmx k hk) (by decide))
  have hb1 : decide (befF ls = 0) = false := decide_eq_false hb0
  simp only [↓R1, R2, R3, R4, TY, reduceIte, Nat.reduceEqDiff, Nat.reduceAdd, Nat.reduceMul, Nat.reduceLT, Nat.reduceLeDiff, reduceCtorEq, decide_true, decide_false, Int.reduceLE, Int.reduceLT, Int.reduceToNat, Int.reduceAdd, Int.reduceSub, Int.reduceMul, Int.reduceEq, FE, hb1, hb0]
  refine call_of (cc _) ?_
  simp only [↓R1, R2, R3, R4, TY, reduceIte, Nat.reduceEqDiff, Nat.reduceAdd, Nat.reduceMul, Nat.reduceLT, Nat.reduceLeDiff, reduceCtorEq, decide_true, decide_false, Int.reduceLE, Int.reduceLT, Int.reduceToNat, Int.reduceAdd, Int.reduceSub, Int.reduceMul, Int.reduceEq, FE, hb1, hb0]
  exact Ended.back hA (Xt.refl A) rfl (RB.tuple fun w hw => by
    simp only [List.mem_cons, List.not_mem_nil, or_false] at hw
    rcases hw with rfl | rfl
    · exact RB.sl0 _ _
    · exact RB.int _ _)
theorem pickL_ok {v u : Value} {ls : List (List Int)} {bs : List Int} (h : Nst A v ls) (hmx : ∀ k, k < ls.length → (ls.getD k []).length ≤ 1048576) (hu : Sl A 1 u (bs.map iC)) (hlb : bs.length ≤ 1048576) :
    Sound Try.prog G 33 [v, u] fl A (.tuple [nlV A ((pkL ls bs).map iC), .int .i64 (befF ls)].toArray) (nlH A 1 ((pkL ls bs).map iC)) := by
  by_cases hb : befF ls = 0
  · have := pick_ok (G := G) (fl := fl) h (fun k hk => Nat.le_trans (hmx k hk) (by decide)) hu (by omega) hb (pk_ne (bs := bs) (befF_dag hb))
    rw [pkL, if_pos hb, hb]; exact this
  · have := pickB_ok (G := G) (fl := fl) (u := u) h hmx hb
    rw [pkL, if_neg hb]; exact this
theorem pickOfL_ok {v u : Value} {ls : List (List Int)} {bs : List Int} (h : Nst A v ls) (hmx : ∀ k, k < ls.length → (ls.getD k []).length ≤ 1048576) (hu : Sl A 1 u (bs.map iC)) (hlb : bs.length ≤ 1048576) :
    Sound Try.prog G 34 [v, u] fl A (.tuple [nlV A ((pkL ls bs).map iC), .int .i64 (befF ls)].toArray) (nlH A 1 ((pkL ls bs).map iC)) := by
  by_cases hb : befF ls = 0
  · have := pickOf_ok (G := G) (fl := fl) h hmx hu hlb hb
    rw [pkL, if_pos hb, hb]; exact this
  · have := pickOfB_ok (G := G) (fl := fl) (u := u) h hmx hb
    rw [pkL, if_neg hb]; exact this
theorem pkL_len {ls : List (List Int)} {bs : List Int} : (pkL ls bs).length ≤ 40 := by
  unfold pkL
  split
  · rename_i h; rw [pk_len]; exact (befF_dag h).len
  · simp

/-- slices.Values: the slice is boxed. -/
theorem values_ok {v : Value} {l : List Int} (hs : Sl A 1 v (l.map iC)) : Sound Try.prog G 41 [v] fl A (.func (.func 54) #[] #[.pointer (some ⟨A.next, 0, some 0⟩)]) (A.push (.row [v] 0 1)) := by
  have hfn : ∃ fn, Try.prog.funcs[41]? = some fn ∧ (fn.name == "runtime.NumGoroutine") = false ∧ fn.body.isNone = false := ⟨_, Try.func41, by kernel_rfl, by kernel_rfl⟩
  obtain ⟨o, c, rfl⟩ := hs.len
  intro μ w args' H hfl ⟨hsz, hall⟩
  have hsa : args'.size = 1 := by simpa using hsz.symm
  obtain ⟨s', rfl⟩ : ∃ s', args' = #[s'] := ⟨args'[0], by
    apply Array.ext
    · simpa using hsa
    · intro i h1 h2
      have : i = 0 := by simp at h2; omega
      subst this; rfl⟩
  have v0 := hall 0 (by simp) (by simp)
  simp at v0
  obtain ⟨o', n', c', rfl⟩ : ∃ o' n' c', s' = .slice o' n' c' := by
    cases v0 with
    | sl0 n c => exact ⟨_, _, _, rfl⟩
    | sl hlt hc hn hl => exact ⟨_, _, _, rfl⟩
  have hcon := val_in Fence.wide 5 trivial rfl o' n' c' w
  refine .inl ⟨hfn, (callsIn_wide.1 hcon).mono fun e w' he => ⟨_, he.1, ?_⟩⟩
  rw [he.2]
  have v1 : VR μ A (.slice o (l.map iC).length c) (.slice o' n' c') := by rw [List.length_map]; exact v0
  obtain ⟨k1, k2⟩ := HR.newBlock (w' := w.alloc (.cells #[.slice o' n' c'] 40)) H hfl [.slice o (l.map iC).length c] #[.slice o' n' c'] 40 (0, 0) 1 (by simp) (fun j x hj => by
    match j with
    | 0 => simp only [List.getElem?_cons_zero, Option.some.injEq] at hj; subst hj; exact ⟨_, rfl, v1⟩
    | j + 1 => simp at hj) (fun j _ => by simp) rfl rfl rfl rfl
  refine ⟨_, .func _ rfl (fun i hi => by simp at hi) rfl (fun i hi hi' => ?_), k1, k2⟩
  match i with
  | 0 => exact .ptr (AR.new 0)
  | i + 1 => simp at hi
end
end Go.Proofs.Ytjohiapgancocaa.Ab
