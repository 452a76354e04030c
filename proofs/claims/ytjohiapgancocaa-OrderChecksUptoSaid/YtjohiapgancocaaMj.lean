/- Orders: OrderChecks. -/
import Derived.Test.YtjohiapgancocaaMi
import Derived.Test.YtjohiapgancocaaKj
import Derived.Test.YtjohiapgancocaaKf
namespace Go.Proofs.Ytjohiapgancocaa.Ab
open Go.RowKit
set_option linter.unusedVariables false
set_option linter.unusedSimpArgs false
set_option maxRecDepth 100000
section
variable {G : Gl} {fl : Nat} {A : Hp}
theorem srt_xt {zs : List Int} : Xt A.next A (srtA A zs) := by
  unfold srtA
  split
  · exact Xt.refl A
  · exact (Xt.refl A).push _
theorem srt_sl {zs : List Int} : Sl (srtA A zs) 1 (srtV A zs) ((msI zs).map iC) := by
  refine ⟨fun c hc => by obtain ⟨x, _, rfl⟩ := List.mem_map.1 hc; rfl, ?_⟩
  unfold srtA srtV
  by_cases h : zs = []
  · subst h
    simp [msI]
  · rw [if_neg h, if_neg h]
    exact .inr (.inr ⟨_, _, _, 0, _, rfl, by rw [List.length_map, msI_len], rfl, by rw [Hp.push_blk, if_pos rfl], fun j x hj => by rw [iC_flat] at hj; rw [Nat.zero_add]; exact hj⟩)
theorem appR_err {l : List St} {p : List Int} : (appR l p).2 = if l.length ≠ p.length then 3 else if (List.range p.length).all (okA l.length p) = true then 0 else 1 := by
  unfold appR
  split
  · rfl
  · split <;> rfl
theorem srt_lt {B : Hp} {n c : Nat} {a : Addr} {zs : List Int} (h : srtV B zs = .slice (some a) n c) : a.block < (srtA B zs).next := by
  unfold srtV at h
  unfold srtA
  split at h
  · cases h
  · rename_i h0
    rw [if_neg h0]
    cases h
    simp
theorem appR_list {l : List St} {p : List Int} : (appR l p).1 = if (appR l p).2 = 0 then p.map (fun k => l.getD k.toNat st0) else [] := by
  unfold appR
  split
  · rfl
  · split <;> rfl
theorem appR_ok {l : List St} {p : List Int} (h : (appR l p).2 = 0) {j : Nat} (hj : j < p.length) : 0 ≤ p.getD j 0 ∧ p.getD j 0 < l.length := by
  rw [appR_err] at h
  split at h
  · cases h
  · split at h
    · rename_i h2
      rw [List.all_eq_true] at h2
      have := h2 j (List.mem_range.2 hj)
      simp only [okA, decide_eq_true_eq] at this
      exact ⟨this.1, this.2.1⟩
    · cases h
def srtOK (p : List Int) (k : Nat) : Bool := (List.range k).all fun i => decide ((msI p).getD i 0 = (i : Int))
theorem srtOK_succ {p : List Int} {k : Nat} : srtOK p (k + 1) = (srtOK p k && decide ((msI p).getD k 0 = (k : Int))) := by
  simp [srtOK, List.range_succ, List.all_append]
theorem appR_srt {l : List St} {p : List Int} (h : l.length = p.length) : (appR l p).2 = if srtOK p p.length = true then 0 else 1 := by
  rw [appR_err, if_neg (by simpa using h)]
  have := appL (p := p) (n := l.length) h.symm
  have e : (List.range p.length).all (okA l.length p) = srtOK p p.length := by
    rw [Bool.eq_iff_iff, this]
    simp [srtOK]
  rw [e]
set_option maxHeartbeats 8000000 in
theorem orderChecks_calls {v u1 u2 u3 : Value} {ls : List (List Int)} {p bs : List Int} {l : List St} (h : Nst A v ls) (hmx : ∀ k, k < ls.length → (ls.getD k []).length ≤ 1048576) (h1 : Sl A 1 u1 (p.map iC)) (hl1 : p.length ≤ 1048576)
    (h2 : Sl A 1 u2 (bs.map iC)) (hl2 : bs.length ≤ 1048576) (h3 : Sl A 5 u3 (l.map tC)) (hl3 : l.length ≤ 1048576) :
    ∀ (μ : Mu) (W : World) (args' : Array Value), HR G μ fl A W → fl ≤ A.next → VRa μ A [v, u1, u2, u3].toArray args' →
    Calls Try.prog 7 args' W fun e w' => ∃ u, e = .returned u ∧ ∃ ν, VR ν A (.bool true) u ∧ HR G ν fl A w' ∧ Trans fl μ A W ν A w' := by
  refine calls_of mixed Try.func7 Try.ntmps7 Try.results7 (by kernel_rfl) rfl (by kernel_rfl) (by kernel_rfl) fun hA => ?_
  have hlp := pkL_len (ls := ls) (bs := bs)
  have c1 := fun fl => pickL_ok (G := G) (fl := fl) h hmx h2 hl2
  have x1 := nlH_xt (A := A) (sz := 1) (css := (pkL ls bs).map iC)
  have s1 := fun C x => nl_later (A := A) (C := C) (sz := 1) (css := (pkL ls bs).map iC) (i_len _) x
  generalize hA1 : nlH A 1 ((pkL ls bs).map iC) = A1 at c1 x1 s1
  have c2 := fun fl => pickOfL_ok (G := G) (fl := fl) (h.xt hA x1) hmx (h2.xt hA x1) hl2
  have x2 := nlH_xt (A := A1) (sz := 1) (css := (pkL ls bs).map iC)
  have s2 := fun C x => nl_later (A := A1) (C := C) (sz := 1) (css := (pkL ls bs).map iC) (i_len _) x
  generalize hA2 : nlH A1 1 ((pkL ls bs).map iC) = A2 at c2 x2 s2
  have y2 := x1.trans x2
  have d1 := fun fl => ordered_ok (G := G) (fl := fl) (A := A2)
  have d2 := fun fl => check_ok (G := G) (fl := fl) (h.xt hA y2) (fun k hk => Nat.le_trans (hmx k hk) (by decide))
  have d3 := fun fl => bfault_ok (G := G) (fl := fl) (h.xt hA y2) (fun k hk => Nat.le_trans (hmx k hk) (by decide))
  have d4 := fun fl => right_ok (G := G) (fl := fl) (h.xt hA y2) hmx (h1.xt hA y2) hl1
  have d5 := fun fl => rightOf_ok (G := G) (fl := fl) (h.xt hA y2) hmx (h1.xt hA y2) hl1
  rw [right_eq] at d4
  have d6 := fun fl => iequal_ok (G := G) (fl := fl) (A := A2) (by omega) (s1 A2 x2) (s2 A2 (Xt.refl _))
  rw [decide_eq_true rfl] at d6
  have c3 := fun fl => apply_ok (G := G) (fl := fl) (h3.xt hA y2) hl3 (h1.xt hA y2) hl1
  have x3 := nlH_xt (A := A2) (sz := 5) (css := (appR l p).1.map tC)
  have s3 := fun C x => nl_later (A := A2) (C := C) (sz := 5) (css := (appR l p).1.map tC) (fun c hc => by obtain ⟨x, _, rfl⟩ := List.mem_map.1 hc; rfl) x
  generalize hA3 : nlH A2 5 ((appR l p).1.map tC) = A3 at c3 x3 s3
  have y3 := y2.trans x3
  have c4 := fun fl => values_ok (G := G) (fl := fl) (h1.xt hA y3)
  have x4 := (Xt.refl A3).push (.row [u1] 0 1)
  generalize hA4 : A3.push (.row [u1] 0 1) = A4 at c4 x4
  have y4 := y3.trans x4
  have c5 := fun fl => sorted_ok (G := G) (fl := fl) (A := A4) (bx := A3.next) (g := 0) (e := 1) (by rw [← hA4, Hp.push_blk, if_pos rfl]) (h1.xt hA y4) hl1
  have x5 := srt_xt (A := A4) (zs := p)
  have s5 := srt_sl (A := A4) (zs := p)
  have l5 := fun a n c => srt_lt (B := A4) (zs := p) (a := a) (n := n) (c := c)
  generalize srtA A4 p = A5 at c5 x5 s5 l5
  generalize srtV A4 p = r5 at c5 s5 l5
  have y5 := y4.trans x5
  obtain ⟨o1, k1, rfl⟩ := h1.len
  obtain ⟨o3, k3, rfl⟩ := h3.len
  obtain ⟨o5, k5, rfl⟩ := s5.len
  rw [List.length_map] at h1 h3
  simp only [List.length_map] at c3 c4 c5 d4 d5
  rw [List.length_map, List.length_map]
  rw [List.length_map, msI_len] at s5
  rw [msI_len] at c5
  have fb := fun (b : Bool) => bne_self_eq_false b
  simp only [↓R1, R2, R3, R4, TY, reduceIte, Nat.reduceEqDiff, Nat.reduceAdd, Nat.reduceMul, Nat.reduceLT, Nat.reduceLeDiff, reduceCtorEq, decide_true, decide_false, Int.reduceLE, Int.reduceLT, Int.reduceToNat, Int.reduceAdd, Int.reduceSub, Int.reduceMul, Int.reduceEq, FE, beq_self_eq_true]
  refine call_of (c1 _) ?_
  simp only [↓R1, R2, R3, R4, TY, reduceIte, Nat.reduceEqDiff, Nat.reduceAdd, Nat.reduceMul, Nat.reduceLT, Nat.reduceLeDiff, reduceCtorEq, decide_true, decide_false, Int.reduceLE, Int.reduceLT, Int.reduceToNat, Int.reduceAdd, Int.reduceSub, Int.reduceMul, Int.reduceEq, FE, beq_self_eq_true]
  refine call_of (c2 _) ?_
  simp only [↓R1, R2, R3, R4, TY, reduceIte, Nat.reduceEqDiff, Nat.reduceAdd, Nat.reduceMul, Nat.reduceLT, Nat.reduceLeDiff, reduceCtorEq, decide_true, decide_false, Int.reduceLE, Int.reduceLT, Int.reduceToNat, Int.reduceAdd, Int.reduceSub, Int.reduceMul, Int.reduceEq, FE, beq_self_eq_true]
  refine call_of (d1 _) ?_
  simp only [↓R1, R2, R3, R4, TY, reduceIte, Nat.reduceEqDiff, Nat.reduceAdd, Nat.reduceMul, Nat.reduceLT, Nat.reduceLeDiff, reduceCtorEq, decide_true, decide_false, Int.reduceLE, Int.reduceLT, Int.reduceToNat, Int.reduceAdd, Int.reduceSub, Int.reduceMul, Int.reduceEq, FE, beq_self_eq_true]
  refine call_of (d2 _) ?_
  simp only [↓R1, R2, R3, R4, TY, reduceIte, Nat.reduceEqDiff, Nat.reduceAdd, Nat.reduceMul, Nat.reduceLT, Nat.reduceLeDiff, reduceCtorEq, decide_true, decide_false, Int.reduceLE, Int.reduceLT, Int.reduceToNat, Int.reduceAdd, Int.reduceSub, Int.reduceMul, Int.reduceEq, FE, beq_self_eq_true]
  refine call_of (d3 _) ?_
  simp only [↓R1, R2, R3, R4, TY, reduceIte, Nat.reduceEqDiff, Nat.reduceAdd, Nat.reduceMul, Nat.reduceLT, Nat.reduceLeDiff, reduceCtorEq, decide_true, decide_false, Int.reduceLE, Int.reduceLT, Int.reduceToNat, Int.reduceAdd, Int.reduceSub, Int.reduceMul, Int.reduceEq, FE, beq_self_eq_true]
  refine call_of (d4 _) ?_
  simp only [↓R1, R2, R3, R4, TY, reduceIte, Nat.reduceEqDiff, Nat.reduceAdd, Nat.reduceMul, Nat.reduceLT, Nat.reduceLeDiff, reduceCtorEq, decide_true, decide_false, Int.reduceLE, Int.reduceLT, Int.reduceToNat, Int.reduceAdd, Int.reduceSub, Int.reduceMul, Int.reduceEq, FE, beq_self_eq_true]
  refine call_of (d5 _) ?_
  simp only [↓R1, R2, R3, R4, TY, reduceIte, Nat.reduceEqDiff, Nat.reduceAdd, Nat.reduceMul, Nat.reduceLT, Nat.reduceLeDiff, reduceCtorEq, decide_true, decide_false, Int.reduceLE, Int.reduceLT, Int.reduceToNat, Int.reduceAdd, Int.reduceSub, Int.reduceMul, Int.reduceEq, FE, beq_self_eq_true]
  refine call_of (d6 _) ?_
  simp only [↓R1, R2, R3, R4, TY, reduceIte, Nat.reduceEqDiff, Nat.reduceAdd, Nat.reduceMul, Nat.reduceLT, Nat.reduceLeDiff, reduceCtorEq, decide_true, decide_false, Int.reduceLE, Int.reduceLT, Int.reduceToNat, Int.reduceAdd, Int.reduceSub, Int.reduceMul, Int.reduceEq, FE, beq_self_eq_true]
  refine call_of (c3 _) ?_
  simp only [↓R1, R2, R3, R4, TY, reduceIte, Nat.reduceEqDiff, Nat.reduceAdd, Nat.reduceMul, Nat.reduceLT, Nat.reduceLeDiff, reduceCtorEq, decide_true, decide_false, Int.reduceLE, Int.reduceLT, Int.reduceToNat, Int.reduceAdd, Int.reduceSub, Int.reduceMul, Int.reduceEq, FE, beq_self_eq_true]
  refine call_of (c4 _) ?_
  simp only [↓R1, R2, R3, R4, TY, reduceIte, Nat.reduceEqDiff, Nat.reduceAdd, Nat.reduceMul, Nat.reduceLT, Nat.reduceLeDiff, reduceCtorEq, decide_true, decide_false, Int.reduceLE, Int.reduceLT, Int.reduceToNat, Int.reduceAdd, Int.reduceSub, Int.reduceMul, Int.reduceEq, FE, beq_self_eq_true]
  refine call_of (c5 _) ?_
  simp only [↓R1x, R2, R3, R4, TY, reduceIte, Nat.reduceEqDiff, Nat.reduceAdd, Nat.reduceMul, Nat.reduceLT, Nat.reduceLeDiff, reduceCtorEq, decide_true, decide_false, Int.reduceLE, Int.reduceLT, Int.reduceToNat, Int.reduceAdd, Int.reduceSub, Int.reduceMul, Int.reduceEq, FE, beq_self_eq_true]
  simp only [k_then]
  simp only [↓R1x, R2, R3, R4, TY, reduceIte, Nat.reduceEqDiff, Nat.reduceAdd, Nat.reduceMul, Nat.reduceLT, Nat.reduceLeDiff, reduceCtorEq, decide_true, decide_false, Int.reduceLE, Int.reduceLT, Int.reduceToNat, Int.reduceAdd, Int.reduceSub, Int.reduceMul, Int.reduceEq, FE, beq_self_eq_true]
  have cN : ∀ m n : Nat, ((m : Int) = (n : Int)) = (m = n) := fun m n => propext (by omega)
  have hfl5 : fl ≤ A5.next := Nat.le_trans hA.floor y5.next
  apply merge (fun τ B => B = A5 ∧ τ 1 = some (.slice o1 p.length k1) ∧ τ 3 = some (.slice o3 l.length k3) ∧ τ 10 = some (.int .i64 (((appR l p).2 : Nat) : Int)) ∧ τ 12 = some (.int .i64 (((appR l p).2 : Nat) : Int)) ∧ τ 13 = some (nlV A2 ((appR l p).1.map tC)) ∧ τ 14 = some (.slice none 0 0))
  · intro tail
    simp only [k_then]
    simp only [↓R1x, R2, R3, R4, TY, reduceIte, Nat.reduceEqDiff, Nat.reduceAdd, Nat.reduceMul, Nat.reduceLT, Nat.reduceLeDiff, reduceCtorEq, decide_true, decide_false, Int.reduceLE, Int.reduceLT, Int.reduceToNat, Int.reduceAdd, Int.reduceSub, Int.reduceMul, Int.reduceEq, FE, cN]
    refine ⟨fun hne => ?_, fun hne => ?_⟩
    · simp only [k_then]
      simp only [↓R1x, R2, R3, R4, TY, reduceIte, Nat.reduceEqDiff, Nat.reduceAdd, Nat.reduceMul, Nat.reduceLT, Nat.reduceLeDiff, reduceCtorEq, decide_true, decide_false, Int.reduceLE, Int.reduceLT, Int.reduceToNat, Int.reduceAdd, Int.reduceSub, Int.reduceMul, Int.reduceEq, FE]
      refine range_of 72 p.length (fun j τ B => B = A5 ∧ τ 1 = some (.slice o1 p.length k1) ∧ τ 3 = some (.slice o3 l.length k3) ∧ τ 10 = some (.int .i64 (((appR l p).2 : Nat) : Int)) ∧ τ 12 = some (.int .i64 (if srtOK p j = true then 0 else 1)) ∧ τ 13 = some (nlV A2 ((appR l p).1.map tC)) ∧ τ 14 = some (.slice none 0 0) ∧
        τ 70 = some (.slice o5 p.length k5) ∧ τ 71 = some (.int .i64 p.length) ∧ τ 72 = some (.int .i64 (j : Nat))) ?_ ?_
      · exact ⟨rfl, rfl, rfl, rfl, rfl, rfl, rfl, rfl, rfl, rfl⟩
      rintro j τ B hj ⟨hB, q1, q3, q10, q12, q13, q14, q70, q71, q72⟩
      simp only [↓R1x, R2, R3, R4, TY, reduceIte, Nat.reduceEqDiff, Nat.reduceAdd, Nat.reduceMul, Nat.reduceLT, Nat.reduceLeDiff, reduceCtorEq, decide_true, decide_false, Int.reduceLE, Int.reduceLT, Int.reduceToNat, Int.reduceAdd, Int.reduceSub, Int.reduceMul, Int.reduceEq, FE, q1, q3, q10, q12, q13, q14, q70, q71, q72]
      simp only [k_then]
      simp only [↓R1x, R2, R3, R4, TY, reduceIte, Nat.reduceEqDiff, Nat.reduceAdd, Nat.reduceMul, Nat.reduceLT, Nat.reduceLeDiff, reduceCtorEq, decide_true, decide_false, Int.reduceLE, Int.reduceLT, Int.reduceToNat, Int.reduceAdd, Int.reduceSub, Int.reduceMul, Int.reduceEq, FE, q1, q3, q10, q12, q13, q14, q70, q71, q72]
      refine ⟨fun hlt => ?_, fun hlt => ?_⟩
      rotate_left
      · obtain rfl : j = p.length := by omega
        have e := appR_srt hne
        exact tail _ _ ⟨hB, q1, q3, q10, q12.trans (by rw [e]; split <;> rfl), q13, q14⟩
      obtain ⟨a5, rfl, -⟩ := s5.at (G := G) (i := j) (by simpa [msI_len] using hlt)
      have u5 := int_get (G := G) s5 (i := j) (by rw [msI_len]; exact hlt)
      rw [← getD_at] at u5
      have hab5 : a5.block < B.next := by rw [hB]; exact l5 _ _ _ rfl
      rw [← hB] at u5
      have hflB : fl ≤ B.next := by rw [hB]; exact hfl5
      have hj63 : j < 9223372036854775807 := by omega
      have k72 := q72
      simp only [↓R1, R2, R3, R4, TY, reduceIte, Nat.reduceEqDiff, Nat.reduceAdd, Nat.reduceMul, Nat.reduceLT, Nat.reduceLeDiff, reduceCtorEq, decide_true, decide_false, Int.reduceLE, Int.reduceLT, Int.reduceToNat, Int.reduceAdd, Int.reduceSub, Int.reduceMul, Int.reduceEq, FE, q1, q3, q10, q12, q13, q14, q70, q71, q72, hlt, hab5, hflB, u5, hj63]
      refine ⟨fun g => ?_, fun g => ?_⟩
      · refine range_on k72 hlt rfl ⟨hB, q1, q3, q10, ?_, q13, q14, q70, q71, rfl⟩
        rw [srtOK_succ, decide_eq_true g, Bool.and_true]; exact q12
      · refine range_on k72 hlt rfl ⟨hB, q1, q3, q10, ?_, q13, q14, q70, q71, rfl⟩
        rw [srtOK_succ, decide_eq_false g, Bool.and_false]; rfl
    · simp only [k_then]
      exact tail _ _ ⟨rfl, rfl, rfl, rfl, by rw [appR_err, if_pos hne]; rfl, rfl, rfl⟩
  rintro τ B ⟨hB, q1, q3, q10, q12, q13, q14⟩
  subst hB
  have al := appR_list (l := l) (p := p)
  obtain ⟨wl, hwl⟩ : ∃ wl : Nat → List St, wl = fun j => if (appR l p).2 = 0 then (p.take j).map (fun k => l.getD k.toNat st0) else [] := ⟨_, rfl⟩
  simp only [↓R1, R2, R3, R4, TY, reduceIte, Nat.reduceEqDiff, Nat.reduceAdd, Nat.reduceMul, Nat.reduceLT, Nat.reduceLeDiff, reduceCtorEq, decide_true, decide_false, Int.reduceLE, Int.reduceLT, Int.reduceToNat, Int.reduceAdd, Int.reduceSub, Int.reduceMul, Int.reduceEq, FE, q1, q3, q10, q12, q13, q14]
  refine range_of 89 p.length (fun j τ D => ∃ sb, Xt B.next B D ∧ Acn D B.next 5 sb ((wl j).map tC) ∧ τ 1 = some (.slice o1 p.length k1) ∧ τ 3 = some (.slice o3 l.length k3) ∧ τ 10 = some (.int .i64 (((appR l p).2 : Nat) : Int)) ∧ τ 12 = some (.int .i64 (((appR l p).2 : Nat) : Int)) ∧ τ 13 = some (nlV A2 ((appR l p).1.map tC)) ∧ τ 14 = some sb ∧
        τ 87 = some (.slice o1 p.length k1) ∧ τ 88 = some (.int .i64 p.length) ∧ τ 89 = some (.int .i64 (j : Nat))) ?_ ?_
  · refine ⟨_, Xt.refl _, ?_, q1, q3, q10, q12, q13, q14, rfl, rfl, rfl⟩
    have : wl 0 = [] := by rw [hwl]; simp
    rw [this]; exact Acn.none
  clear q1 q3 q10 q12 q13 q14
  rintro j τ D hj ⟨sb, hx, hac, q1, q3, q10, q12, q13, q14, q87, q88, q89⟩
  simp only [↓R1, R2, R3, R4, TY, reduceIte, Nat.reduceEqDiff, Nat.reduceAdd, Nat.reduceMul, Nat.reduceLT, Nat.reduceLeDiff, reduceCtorEq, decide_true, decide_false, Int.reduceLE, Int.reduceLT, Int.reduceToNat, Int.reduceAdd, Int.reduceSub, Int.reduceMul, Int.reduceEq, FE, q1, q3, q10, q12, q13, q14, q87, q88, q89, beq_self_eq_true]
  refine ⟨fun hlt => ?_, fun hlt => ?_⟩
  rotate_left
  · obtain rfl : j = p.length := by omega
    have e : wl p.length = (appR l p).1 := by rw [hwl, al]; simp
    rw [e] at hac
    have hle : (appR l p).1.length < 9223372036854775807 := by
      rw [al]; split <;> simp <;> omega
    have ce := fun fl => equalT_ok (G := G) (fl := fl) (A := D) hle (s3 D ((x4.trans x5).trans hx)) hac.sl
    rw [decide_eq_true rfl] at ce
    refine call_of (ce _) ?_
    simp only [↓R1, R2, R3, R4, TY, reduceIte, Nat.reduceEqDiff, Nat.reduceAdd, Nat.reduceMul, Nat.reduceLT, Nat.reduceLeDiff, reduceCtorEq, decide_true, decide_false, Int.reduceLE, Int.reduceLT, Int.reduceToNat, Int.reduceAdd, Int.reduceSub, Int.reduceMul, Int.reduceEq, FE, q1, q3, q10, q12, q13, q14, q87, q88, q89, beq_self_eq_true]
    exact Ended.back hA (y5.trans hx) rfl (RB.bool _)
  have yD := y5.trans hx
  have h1D := h1.xt hA yD
  obtain ⟨a1, rfl, -⟩ := h1D.at (G := G) (i := j) (by simpa using hlt)
  have hab1 : a1.block < D.next := Nat.lt_of_lt_of_le (h1.lt hA) yD.next
  have hflD : fl ≤ D.next := Nat.le_trans hA.floor yD.next
  have u1 := int_get (G := G) h1D hlt
  have hj63 : j < 9223372036854775807 := by omega
  have k89 := q89
  obtain ⟨x, hxe⟩ : ∃ x, x = p[j] := ⟨_, rfl⟩
  rw [← hxe] at u1
  have hgd : p.getD j 0 = x := by rw [getD_at hlt, hxe]
  have htk : p.take (j + 1) = p.take j ++ [x] := by rw [List.take_succ_eq_append_getElem hlt, hxe]
  by_cases he : (appR l p).2 = 0
  · have hw : ∀ i, wl i = (p.take i).map fun k => l.getD k.toNat st0 := fun i => by rw [hwl]; exact if_pos he
    have hok := appR_ok he hlt
    rw [hgd] at hok
    obtain ⟨k, hk⟩ : ∃ k : Nat, x = k := ⟨x.toNat, by omega⟩
    subst hk
    have hkl : k < l.length := by omega
    have h3D := h3.xt hA yD
    obtain ⟨a, rfl, -⟩ := h3D.at (G := G) (i := k) (by simpa using hkl)
    have hab : a.block < D.next := Nat.lt_of_lt_of_le (h3.lt hA) yD.next
    obtain ⟨z0, z1, z2, z3, z4⟩ := st_get (G := G) h3D hkl
    have hk0 : (0 : Int) ≤ (k : Int) := by omega
    have hz5 : zl [Value.int .i64 0, .int .i64 0, .int .i64 0, .int .i64 0, .int .i64 0] 5 = [Value.int .i64 0, .int .i64 0, .int .i64 0, .int .i64 0, .int .i64 0] := rfl
    have q12' : τ 12 = some (.int .i64 0) := by rw [q12, he]; rfl
    simp only [↓R1, R2, R3, R4, TY, reduceIte, Nat.reduceEqDiff, Nat.reduceAdd, Nat.reduceMul, Nat.reduceLT, Nat.reduceLeDiff, reduceCtorEq, decide_true, decide_false, Int.reduceLE, Int.reduceLT, Int.reduceToNat, Int.reduceAdd, Int.reduceSub, Int.reduceMul, Int.reduceEq, FE, q1, q3, q10, q12', q13, q14, q87, q88, q89, hlt, hj, hab1, hflD, u1, hj63, hab, hkl, hk0, z0, z1, z2, z3, z4, hz5]
    have hgk : l.getD k st0 = l[k] := by simp [List.getD, hkl]
    have wle : (wl j).length ≤ j := by rw [hw]; simp; omega
    refine app1 (lo := B.next) (sz := 5) (cl := tC l[k]) ty57 rfl ty66 rfl (by omega) rfl hac hfl5 hx.next rfl (by simp [tC, Value.oneCell']) (by simp; omega) (by simp; omega) ?_
    intro sb' E hac' hxD hnD hfD hidD
    have hxBE : Xt B.next B E := ⟨fun id hid => (hxD.blk id hid).trans (hx.blk id hid), by have := hx.next; omega⟩
    simp only [↓R1, R2, R3, R4, TY, reduceIte, Nat.reduceEqDiff, Nat.reduceAdd, Nat.reduceMul, Nat.reduceLT, Nat.reduceLeDiff, reduceCtorEq, decide_true, decide_false, Int.reduceLE, Int.reduceLT, Int.reduceToNat, Int.reduceAdd, Int.reduceSub, Int.reduceMul, Int.reduceEq, FE, q1, q3, q10, q12', q13, q14, q87, q88, q89, hj63]
    refine range_on k89 hlt rfl ⟨sb', hxBE, ?_, q1, q3, q10, q12, q13, rfl, q87, q88, rfl⟩
    rw [hw, htk, List.map_append, List.map_append, ← hw]
    simp only [List.map_cons, List.map_nil, Int.toNat_natCast, hgk]
    exact hac'
  · have hw : ∀ i, wl i = [] := fun i => by rw [hwl]; exact if_neg he
    have hez : (((appR l p).2 : Nat) : Int) ≠ 0 := by omega
    simp only [↓R1, R2, R3, R4, TY, reduceIte, Nat.reduceEqDiff, Nat.reduceAdd, Nat.reduceMul, Nat.reduceLT, Nat.reduceLeDiff, reduceCtorEq, decide_true, decide_false, Int.reduceLE, Int.reduceLT, Int.reduceToNat, Int.reduceAdd, Int.reduceSub, Int.reduceMul, Int.reduceEq, FE, q1, q3, q10, q12, q13, q14, q87, q88, q89, hlt, hj, hab1, hflD, u1, hj63, hez]
    exact range_on k89 hlt rfl ⟨sb, hx, by rw [hw]; rw [hw] at hac; exact hac, q1, q3, q10, q12, q13, q14, q87, q88, rfl⟩
end
end Go.Proofs.Ytjohiapgancocaa.Ab
