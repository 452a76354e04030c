/- Tools: tasks, and what validating them comes to. -/
import Derived.Test.YtjohiapgancocaaTlE
import Derived.Test.YtjohiapgancocaaAb21
namespace Go.Proofs.Ytjohiapgancocaa.Ab
open Go.RowKit
set_option linter.unusedVariables false
set_option linter.unusedSimpArgs false
set_option maxRecDepth 100000

/-- A row of whole numbers. -/
def ic (x : Int) : List Value := [.int .i64 x]
structure Tk where
  tool : Int
  long : Int
  av : Value
  after : List Int
def Tk.cells (t : Tk) : List Value := [.int .i64 t.tool, .int .i64 t.long, t.av]
/-- A slice of tasks, and what comes before each. -/
structure Tks (A : Hp) (v : Value) (l : List Tk) : Prop where
  sl : Sl A 3 v (l.map Tk.cells)
  each : ∀ t ∈ l, Sl A 1 t.av (t.after.map ic)
  len : ∀ t ∈ l, t.after.length ≤ 9223372036854775807

def Tk.bad (t : Tk) : Prop := t.tool < -1 ∨ 6 ≤ t.tool ∨ t.long < 1 ∨ 2000 < t.long
instance (t : Tk) : Decidable t.bad := by unfold Tk.bad; infer_instance
def Tk.out (k : Nat) (t : Tk) : Prop := ∃ x ∈ t.after, x < 0 ∨ (k : Int) ≤ x
instance (k : Nat) (t : Tk) : Decidable (t.out k) := by unfold Tk.out; infer_instance
def taskGo : Nat → List Tk → Int
  | _, [] => 0
  | k, t :: r => if t.bad then 1 else if t.out k then 9 else taskGo (k + 1) r
def taskE (l : List Tk) : Int := if 60 < l.length then 2 else taskGo 0 l
theorem taskGo_at {l : List Tk} {j : Nat} (h : j < l.length) : taskGo j (l.drop j) = if l[j].bad then 1 else if l[j].out j then 9 else taskGo (j + 1) (l.drop (j + 1)) := by
  rw [List.drop_eq_getElem_cons h, taskGo]

section
variable {G : Gl} {fl : Nat} {A : Hp}

theorem tk_get {B : Hp} {a : Addr} {n c : Nat} {l : List Tk} (h : Sl B 3 (.slice (some a) n c) (l.map Tk.cells)) {i : Nat} (hi : i < l.length) :
    B.get G (aadd a (i * 3)) = some (.int .i64 l[i].tool) ∧ B.get G (aadd a (i * 3 + 1)) = some (.int .i64 l[i].long) ∧ B.get G (aadd a (i * 3 + 2)) = some l[i].av := by
  obtain ⟨a', h1, h2⟩ := h.at (G := G) (i := i) (by simpa using hi)
  cases h1
  simp only [List.getElem_map] at h2
  exact ⟨h2 0 _ rfl, h2 1 _ rfl, h2 2 _ rfl⟩
theorem int_get {B : Hp} {a : Addr} {n c : Nat} {l : List Int} (h : Sl B 1 (.slice (some a) n c) (l.map ic)) {i : Nat} (hi : i < l.length) : B.get G (aadd a i) = some (.int .i64 l[i]) := by
  obtain ⟨a', h1, h2⟩ := h.at (G := G) (i := i) (by simpa using hi)
  cases h1
  simp only [List.getElem_map] at h2
  have := h2 0 _ rfl
  simpa using this

theorem tasks_ok {v : Value} {l : List Tk} (hs : Tks A v l) : Sound Try.prog G 44 [v] fl A (.int .i64 (taskE l)) A := by
  refine Sound.of mixed Try.func44 Try.ntmps44 Try.results44 (by kernel_rfl) rfl (by kernel_rfl) (by simp) fun hA => ?_
  obtain ⟨hs, heach, hlen⟩ := hs
  obtain ⟨o, c, rfl⟩ := hs.len
  rw [List.length_map] at hs ⊢
  simp only [↓R1, R2, R3, R4, TY, reduceIte, Nat.reduceEqDiff, Nat.reduceAdd, Nat.reduceMul, Nat.reduceLT, Nat.reduceLeDiff, reduceCtorEq, decide_true, decide_false]
  refine ⟨fun h => ?_, fun h => ?_⟩
  · refine Ended.back hA (Xt.refl A) (congrArg _ ?_) (RB.int _ _)
    rw [taskE, if_pos (by omega)]
  rw [taskE, if_neg (by omega)]
  refine range_of 12 l.length (fun j τ B => Xt A.next A B ∧ τ 10 = some (.slice o l.length c) ∧ τ 11 = some (.int .i64 l.length) ∧ τ 12 = some (.int .i64 j) ∧ taskGo 0 l = taskGo j (l.drop j)) ?_ ?_
  · exact ⟨Xt.refl A, rfl, rfl, rfl, rfl⟩
  rintro j τ B hj ⟨hx, h10, h11, h12, hgo⟩
  simp only [↓R1, R2, R3, R4, TY, reduceIte, Nat.reduceEqDiff, Nat.reduceAdd, Nat.reduceMul, Nat.reduceLT, Nat.reduceLeDiff, reduceCtorEq, decide_true, decide_false, h10, h11, h12]
  refine ⟨fun hlt => ?_, fun hlt => ?_⟩
  rotate_left
  · refine Ended.back hA hx (congrArg _ ?_) (RB.int _ _)
    rw [hgo, List.drop_of_length_le (by omega)]; rfl
  obtain ⟨a, rfl, -⟩ := hs.at (G := G) (i := j) (by simpa using hlt)
  have hsB := hs.xt hA hx
  have hab : a.block < B.next := Nat.lt_of_lt_of_le (hs.lt hA) hx.next
  have hfl : fl ≤ B.next := Nat.le_trans hA.floor hx.next
  obtain ⟨g0, g1, g2⟩ := tk_get (G := G) hsB hlt
  have hafter := heach l[j] (List.getElem_mem _)
  obtain ⟨o2, c2, hav⟩ := hafter.len
  rw [List.length_map] at hav
  rw [hav] at g2 hafter
  simp only [↓R1, R2, R3, R4, TY, reduceIte, Nat.reduceEqDiff, Nat.reduceAdd, Nat.reduceMul, Nat.reduceLT, Nat.reduceLeDiff, reduceCtorEq, decide_true, decide_false, h10, h11, h12, hlt, hab, hfl, g0, g1, g2]
  have hbad : ∀ C : Hp, Xt A.next A C → l[j].bad → Ended A (.int .i64 1) C (.int .i64 (taskGo 0 l)) A := fun C hC hb => by
    refine Ended.back hA hC (congrArg _ ?_) (RB.int _ _)
    rw [hgo, taskGo_at hlt, if_pos hb]
  generalize hB2 : Hp.put _ _ _ = B2
  have hx2 : Xt A.next A B2 := by rw [← hB2]; simp (maxDischargeDepth := 20) only [xt_push, xt_put, hx, hx.next]
  have hj63 : j < 9223372036854775807 := by omega
  refine ⟨fun hb => hbad _ hx2 (by simp only [Tk.bad]; omega), fun hb1 => ⟨fun hb => hbad _ hx2 (by simp only [Tk.bad]; omega), fun hb2 => ⟨fun hb => hbad _ hx2 (by simp only [Tk.bad]; omega), fun hb3 => ⟨fun hb => hbad _ hx2 (by simp only [Tk.bad]; omega), fun hb4 => ?_⟩⟩⟩⟩
  have hnb : ¬ l[j].bad := by simp only [Tk.bad]; omega
  have hln := hlen l[j] (List.getElem_mem _)
  have htsk : B2.get G ⟨B.next, 2, some 0⟩ = some (.slice o2 l[j].after.length c2) := by rw [← hB2]; simp [Hp.get, Hp.put_blk]
  refine range_of 38 l[j].after.length (fun i τ C => Xt A.next A C ∧ τ 3 = some (.int .i64 j) ∧ τ 10 = some (.slice (some a) l.length c) ∧ τ 11 = some (.int .i64 l.length) ∧ τ 12 = some (.int .i64 j) ∧ τ 36 = some (.slice o2 l[j].after.length c2) ∧
    τ 37 = some (.int .i64 l[j].after.length) ∧ τ 38 = some (.int .i64 i) ∧ ∀ x ∈ l[j].after.take i, ¬ (x < 0 ∨ (j : Int) ≤ x)) ?_ ?_
  · exact ⟨hx2, rfl, h10, h11, h12, rfl, rfl, rfl, by simp⟩
  rintro i τ' C hi ⟨hxC, q3, q10, q11, q12, q36, q37, q38, hno⟩
  simp only [↓R1, R2, R3, R4, TY, reduceIte, Nat.reduceEqDiff, Nat.reduceAdd, Nat.reduceMul, Nat.reduceLT, Nat.reduceLeDiff, reduceCtorEq, decide_true, decide_false, q3, q10, q11, q12, q36, q37, q38, hj63]
  refine ⟨fun hil => ?_, fun hil => ?_⟩
  rotate_left
  · refine range_on h12 hlt rfl ⟨hxC, q10, q11, rfl, ?_⟩
    rw [hgo, taskGo_at hlt, if_neg hnb, if_neg]
    rintro ⟨x, hx, hp⟩
    exact hno x (by rw [List.take_of_length_le (by omega)]; exact hx) hp
  obtain ⟨a2, rfl, -⟩ := hafter.at (G := G) (i := i) (by simpa using hil)
  have k0 := int_get (G := G) (hafter.xt hA hxC) hil
  have hi63 : i < 9223372036854775807 := by omega
  have hout : ∀ b : Bool, b = true → (l[j].after[i] < 0 ∨ (j : Int) ≤ l[j].after[i]) → Ended A (.int .i64 9) C (.int .i64 (taskGo 0 l)) A := fun b _ hp => by
    refine Ended.back hA hxC (congrArg _ ?_) (RB.int _ _)
    rw [hgo, taskGo_at hlt, if_neg hnb, if_pos ⟨_, List.getElem_mem _, hp⟩]
  simp only [↓R1, R2, R3, R4, TY, reduceIte, Nat.reduceEqDiff, Nat.reduceAdd, Nat.reduceMul, Nat.reduceLT, Nat.reduceLeDiff, reduceCtorEq, decide_true, decide_false, q3, q10, q11, q12, q36, q37, q38, hil, k0, hi63]
  refine ⟨fun h1 => hout true rfl (.inl h1), fun h1 => ⟨fun h2 => hout true rfl (.inr h2), fun h2 => ?_⟩⟩
  refine range_on q38 hil rfl ⟨hxC, q3, q10, q11, q12, q36, q37, rfl, ?_⟩
  rw [List.take_succ_eq_append_getElem hil]
  intro x hx
  rcases List.mem_append.1 hx with h | h
  · exact hno x h
  · rw [List.mem_singleton.1 h]; omega

theorem tasksFault_ok {v : Value} {l : List Tk} (hs : Tks A v l) : Sound Try.prog G 45 [v] fl A (.int .i64 (taskE l)) A := by
  refine Sound.of mixed Try.func45 Try.ntmps45 Try.results45 (by kernel_rfl) rfl (by kernel_rfl) (by simp) fun hA => ?_
  obtain ⟨hs, heach, hlen⟩ := hs
  obtain ⟨o, c, rfl⟩ := hs.len
  rw [List.length_map] at hs ⊢
  simp only [↓R1, R2, R3, R4, TY, reduceIte, Nat.reduceEqDiff, Nat.reduceAdd, Nat.reduceMul, Nat.reduceLT, Nat.reduceLeDiff, reduceCtorEq, decide_true, decide_false]
  refine ⟨fun h => ?_, fun h => ?_⟩
  · refine Ended.back hA (Xt.refl A) (congrArg _ ?_) (RB.int _ _)
    rw [taskE, if_pos (by omega)]
  rw [taskE, if_neg (by omega)]
  refine range_of 12 l.length (fun j τ B => Xt A.next A B ∧ τ 10 = some (.slice o l.length c) ∧ τ 11 = some (.int .i64 l.length) ∧ τ 12 = some (.int .i64 j) ∧ taskGo 0 l = taskGo j (l.drop j)) ?_ ?_
  · exact ⟨Xt.refl A, rfl, rfl, rfl, rfl⟩
  rintro j τ B hj ⟨hx, h10, h11, h12, hgo⟩
  simp only [↓R1, R2, R3, R4, TY, reduceIte, Nat.reduceEqDiff, Nat.reduceAdd, Nat.reduceMul, Nat.reduceLT, Nat.reduceLeDiff, reduceCtorEq, decide_true, decide_false, h10, h11, h12]
  refine ⟨fun hlt => ?_, fun hlt => ?_⟩
  rotate_left
  · refine Ended.back hA hx (congrArg _ ?_) (RB.int _ _)
    rw [hgo, List.drop_of_length_le (by omega)]; rfl
  obtain ⟨a, rfl, -⟩ := hs.at (G := G) (i := j) (by simpa using hlt)
  have hsB := hs.xt hA hx
  have hab : a.block < B.next := Nat.lt_of_lt_of_le (hs.lt hA) hx.next
  have hfl : fl ≤ B.next := Nat.le_trans hA.floor hx.next
  obtain ⟨g0, g1, g2⟩ := tk_get (G := G) hsB hlt
  have hafter := heach l[j] (List.getElem_mem _)
  obtain ⟨o2, c2, hav⟩ := hafter.len
  rw [List.length_map] at hav
  rw [hav] at g2 hafter
  simp only [↓R1, R2, R3, R4, TY, reduceIte, Nat.reduceEqDiff, Nat.reduceAdd, Nat.reduceMul, Nat.reduceLT, Nat.reduceLeDiff, reduceCtorEq, decide_true, decide_false, h10, h11, h12, hlt, hab, hfl, g0, g1, g2]
  have hbad : ∀ C : Hp, Xt A.next A C → l[j].bad → Ended A (.int .i64 1) C (.int .i64 (taskGo 0 l)) A := fun C hC hb => by
    refine Ended.back hA hC (congrArg _ ?_) (RB.int _ _)
    rw [hgo, taskGo_at hlt, if_pos hb]
  generalize hB2 : Hp.put _ _ _ = B2
  have hx2 : Xt A.next A B2 := by rw [← hB2]; simp (maxDischargeDepth := 20) only [xt_push, xt_put, hx, hx.next]
  have hj63 : j < 9223372036854775807 := by omega
  refine ⟨fun hb => hbad _ hx2 (by simp only [Tk.bad]; omega), fun hb1 => ⟨fun hb => hbad _ hx2 (by simp only [Tk.bad]; omega), fun hb2 => ⟨fun hb => hbad _ hx2 (by simp only [Tk.bad]; omega), fun hb3 => ⟨fun hb => hbad _ hx2 (by simp only [Tk.bad]; omega), fun hb4 => ?_⟩⟩⟩⟩
  have hnb : ¬ l[j].bad := by simp only [Tk.bad]; omega
  have hln := hlen l[j] (List.getElem_mem _)
  have htsk : B2.get G ⟨B.next, 2, some 0⟩ = some (.slice o2 l[j].after.length c2) := by rw [← hB2]; simp [Hp.get, Hp.put_blk]
  refine range_of 38 l[j].after.length (fun i τ C => Xt A.next A C ∧ τ 3 = some (.int .i64 j) ∧ τ 10 = some (.slice (some a) l.length c) ∧ τ 11 = some (.int .i64 l.length) ∧ τ 12 = some (.int .i64 j) ∧ τ 36 = some (.slice o2 l[j].after.length c2) ∧
    τ 37 = some (.int .i64 l[j].after.length) ∧ τ 38 = some (.int .i64 i) ∧ ∀ x ∈ l[j].after.take i, ¬ (x < 0 ∨ (j : Int) ≤ x)) ?_ ?_
  · exact ⟨hx2, rfl, h10, h11, h12, rfl, rfl, rfl, by simp⟩
  rintro i τ' C hi ⟨hxC, q3, q10, q11, q12, q36, q37, q38, hno⟩
  simp only [↓R1, R2, R3, R4, TY, reduceIte, Nat.reduceEqDiff, Nat.reduceAdd, Nat.reduceMul, Nat.reduceLT, Nat.reduceLeDiff, reduceCtorEq, decide_true, decide_false, q3, q10, q11, q12, q36, q37, q38, hj63]
  refine ⟨fun hil => ?_, fun hil => ?_⟩
  rotate_left
  · refine range_on h12 hlt rfl ⟨hxC, q10, q11, rfl, ?_⟩
    rw [hgo, taskGo_at hlt, if_neg hnb, if_neg]
    rintro ⟨x, hx, hp⟩
    exact hno x (by rw [List.take_of_length_le (by omega)]; exact hx) hp
  obtain ⟨a2, rfl, -⟩ := hafter.at (G := G) (i := i) (by simpa using hil)
  have k0 := int_get (G := G) (hafter.xt hA hxC) hil
  have hi63 : i < 9223372036854775807 := by omega
  have hout : ∀ b : Bool, b = true → (l[j].after[i] < 0 ∨ (j : Int) ≤ l[j].after[i]) → Ended A (.int .i64 9) C (.int .i64 (taskGo 0 l)) A := fun b _ hp => by
    refine Ended.back hA hxC (congrArg _ ?_) (RB.int _ _)
    rw [hgo, taskGo_at hlt, if_neg hnb, if_pos ⟨_, List.getElem_mem _, hp⟩]
  simp only [↓R1, R2, R3, R4, TY, reduceIte, Nat.reduceEqDiff, Nat.reduceAdd, Nat.reduceMul, Nat.reduceLT, Nat.reduceLeDiff, reduceCtorEq, decide_true, decide_false, q3, q10, q11, q12, q36, q37, q38, hil, k0, hi63]
  refine ⟨fun h1 => hout true rfl (.inl h1), fun h1 => ⟨fun h2 => hout true rfl (.inr h2), fun h2 => ?_⟩⟩
  refine range_on q38 hil rfl ⟨hxC, q3, q10, q11, q12, q36, q37, rfl, ?_⟩
  rw [List.take_succ_eq_append_getElem hil]
  intro x hx
  rcases List.mem_append.1 hx with h | h
  · exact hno x h
  · rw [List.mem_singleton.1 h]; omega
end
end Go.Proofs.Ytjohiapgancocaa.Ab
