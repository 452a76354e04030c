/- Clocks: the net's Take and Send. -/
import Derived.Test.YtiiapkhdjchhjaaCb
namespace Go.Proofs.Ytiiapkhdjchhjaa.Ab
open Go.RowKit
set_option linter.unusedVariables false
set_option linter.unusedSimpArgs false
set_option maxRecDepth 100000
section
variable {G : Gl} {fl : Nat} {A : Hp}
theorem apn_nil1 {P : Program} {sz j : Nat} {t e : TypeId} {T E : Ty} {cl : List Value} {B : Hp} {f : Value × Hp → Prop} (hT : tyOf P t = some T) (hd : T.d = .sl e) (hE : tyOf P e = some E)
    (hsz : E.size = sz) (h0 : 0 < sz) (hz : E.zero.length = sz) (hcl : cl.length = sz) (hone : cl.all Value.oneCell' = true) (hb : E.bytes ≤ 140737488355328)
    (hj : ∀ i, B.get G ⟨j, i, some 0⟩ = cl[i]?) (k : f (.slice (some ⟨B.next, 0, some 0⟩) 1 1, B.push (.row cl 0 sz))) :
    @apn P G fl B #[t, t] [.slice none 0 0, .slice (some ⟨j, 0, some 0⟩) 1 1] ⟨f⟩ := by
  subst hsz
  refine ⟨_, _, rfl, t, t, e, T, E, 1, cl, rfl, hT, hd, hE, by rw [hT]; simp [hd], h0, hz, hone, ⟨by omega, .inr (.inl ⟨_, _, rfl, by simp, fun i v hi => ?_⟩)⟩, .inr (.inl ⟨rfl, by omega, by omega, by omega, k⟩)⟩
  rw [show aadd ⟨j, 0, some 0⟩ i = ⟨j, i, some 0⟩ by simp [aadd], hj]; exact hi
theorem take0_ok {N g : Nat} {fs tk : Value} (hN : A.blk N = some (.row [fs, tk, .slice none 0 0] g 3)) (hNf : fl ≤ N) (hNn : N < A.next) (t : Int) :
    Sound Try.prog G 7 [.pointer (some ⟨N, 0, some g⟩), .int .i64 t, .int .i64 4] fl A (.slice none 0 0) A := by
  refine Sound.ofS mixed Try.func7 Try.ntmps7 Try.results7 (by kernel_rfl) rfl (by kernel_rfl) (by kernel_rfl) fun hA => ?_
  have cs := fun fl A => sortStable_ok (G := G) (fl := fl) (A := A) (o := none) (n := 0) (c := 0) (f := .func (.func 13) #[] #[]) (by omega)
  have hfl := hA.floor
  have g2 : A.get G ⟨N, 2, some g⟩ = some (.slice none 0 0) := by simp only [Hp.get, hN, if_true]; rfl
  simp only [↓R1, R2, R3, R4, TY, reduceIte, Nat.reduceEqDiff, Nat.reduceAdd, Nat.reduceMul, Nat.reduceLT, Nat.reduceLeDiff, reduceCtorEq, decide_true, decide_false, Int.reduceLE, Int.reduceLT, Int.reduceToNat, Int.reduceAdd, Int.reduceSub, Int.reduceMul, Int.reduceEq, FE, g2]
  refine unroll_of [()] ?_
  simp only [↓R1, R2, R3, R4, TY, reduceIte, Nat.reduceEqDiff, Nat.reduceAdd, Nat.reduceMul, Nat.reduceLT, Nat.reduceLeDiff, reduceCtorEq, decide_true, decide_false, Int.reduceLE, Int.reduceLT, Int.reduceToNat, Int.reduceAdd, Int.reduceSub, Int.reduceMul, Int.reduceEq, FE, g2, hN, hNf, hNn]
  refine call_of (cs _ _) ?_
  simp only [↓R1, R2, R3, R4, TY, reduceIte, Nat.reduceEqDiff, Nat.reduceAdd, Nat.reduceMul, Nat.reduceLT, Nat.reduceLeDiff, reduceCtorEq, decide_true, decide_false, Int.reduceLE, Int.reduceLT, Int.reduceToNat, Int.reduceAdd, Int.reduceSub, Int.reduceMul, Int.reduceEq, FE]
  refine unroll_of [()] ?_
  simp only [↓R1, R2, R3, R4, TY, reduceIte, Nat.reduceEqDiff, Nat.reduceAdd, Nat.reduceMul, Nat.reduceLT, Nat.reduceLeDiff, reduceCtorEq, decide_true, decide_false, Int.reduceLE, Int.reduceLT, Int.reduceToNat, Int.reduceAdd, Int.reduceSub, Int.reduceMul, Int.reduceEq, FE]
  exact ⟨rfl, Hp.put_self A N _ hN⟩
def z7 : List Value := [.int .i64 0, .int .i64 0, .int .i64 0, .int .i64 0, .int .i64 0, .int .u32 0, .slice none 0 0]
def tkB (A : Hp) (m : Mg) : Hp := (((A.push (.row z7 0 7)).put A.next (.row (sC m) 0 7)).push (.row (sC m) 0 7)).push (.row (sC m) 0 7)
def tkD (B : Hp) (N g : Nat) (fs tk : Value) (m : Mg) : Hp := ((((B.put N (.row [fs, tk, .slice none 0 0] g 3)).push (.row z7 0 7)).put B.next (.row (sC m) 0 7)).push (.row (mC m) 0 6)).push (.row (mC m) 0 6)
theorem take1_ok {N g k gk c0 : Nat} {fs tk : Value} {m : Mg} (hN : A.blk N = some (.row [fs, tk, .slice (some ⟨k, 0, some gk⟩) 1 c0] g 3)) (hNf : fl ≤ N) (hNn : N < A.next)
    (hk : A.blk k = some (.row (sC m) gk 7)) (hkn : k < A.next) {t : Int} (ht : m.t + 1 ≤ t) :
    Sound Try.prog G 7 [.pointer (some ⟨N, 0, some g⟩), .int .i64 t, .int .i64 4] fl A (.slice (some ⟨A.next + 5, 0, some 0⟩) 1 1) (tkD (tkB A m) N g fs tk m) := by
  have g2 : A.get G ⟨N, 2, some g⟩ = some (.slice (some ⟨k, 0, some gk⟩) 1 c0) := by simp only [Hp.get, hN, if_true]; rfl
  have gk' : ∀ j, A.get G ⟨k, j, some gk⟩ = (sC m)[j]? := fun j => by simp only [Hp.get, hk, if_true]
  have k0 := gk' 0
  have k1 := gk' 1
  have k2 := gk' 2
  have k3 := gk' 3
  have k4 := gk' 4
  have k5 := gk' 5
  have k6 := gk' 6
  simp only [sC, mC, List.getElem?_cons_zero, List.getElem?_cons_succ] at k0 k1 k2 k3 k4 k5 k6
  have hz7 : zl [Value.int .i64 0, .int .i64 0, .int .i64 0, .int .i64 0, .int .i64 0, .int .u32 0, .slice none 0 0] 7 = [Value.int .i64 0, .int .i64 0, .int .i64 0, .int .i64 0, .int .i64 0, .int .u32 0, .slice none 0 0] := rfl
  have hz6 : zl [Value.int .i64 0, .int .i64 0, .int .i64 0, .int .i64 0, .int .u32 0, .slice none 0 0] 6 = [Value.int .i64 0, .int .i64 0, .int .i64 0, .int .i64 0, .int .u32 0, .slice none 0 0] := rfl
  have z6l : (6 ≤ (zl [Value.int .i64 0, .int .i64 0, .int .i64 0, .int .i64 0, .int .u32 0, .slice none 0 0] 6).length) = True := eq_true (by decide)
  have hez : eszOK A k 7 := fun cs g e hb => by rw [hk] at hb; cases hb; rfl
  have hle : m.t + 1 ≤ t := ht
  have w1 : IntKind.i64.wrap 1 = 1 := rfl
  refine Sound.ofS mixed Try.func7 Try.ntmps7 Try.results7 (by kernel_rfl) rfl (by kernel_rfl) (by kernel_rfl) fun hA => ?_
  have hfl := hA.floor
  simp only [↓R1, R2, R3, R4, TY, reduceIte, Nat.reduceEqDiff, Nat.reduceAdd, Nat.reduceMul, Nat.reduceLT, Nat.reduceLeDiff, reduceCtorEq, decide_true, decide_false, Int.reduceLE, Int.reduceLT, Int.reduceToNat, Int.reduceAdd, Int.reduceSub, Int.reduceMul, Int.reduceEq, FE, g2]
  refine unroll_of [(), ()] ?_
  simp only [↓R1, R2, R3, R4, TY, reduceIte, Nat.reduceEqDiff, Nat.reduceAdd, Nat.reduceMul, Nat.reduceLT, Nat.reduceLeDiff, reduceCtorEq, decide_true, decide_false, Int.reduceLE, Int.reduceLT, Int.reduceToNat, Int.reduceAdd, Int.reduceSub, Int.reduceMul, Int.reduceEq, FE, g2, hkn, hfl, k0, k1, k2, k3, k4, k5, k6, hz7, hez, hle]
  refine apn_nil1 (sz := 7) (cl := sC m) ty44 rfl ty48 rfl (by omega) rfl rfl rfl (by decide) (fun i => by simp [Hp.get, Hp.push_blk, Hp.put_blk, sC, mC]) ?_
  generalize hB : Hp.push _ (.row (sC m) 0 7) = B
  have hBd : tkB A m = B := by rw [← hB]; rfl
  have hBn : B.next = A.next + 3 := by rw [← hB]; rfl
  have hBN : B.blk N = some (.row [fs, tk, .slice (some ⟨k, 0, some gk⟩) 1 c0] g 3) := by
    rw [← hBd]
    simp [tkB, Hp.push_blk, Hp.put_blk, show N ≠ A.next by omega, show N ≠ A.next + 1 by omega, show N ≠ A.next + 1 + 1 by omega, hN]
  have hBk : B.blk (A.next + 2) = some (.row (sC m) 0 7) := by
    rw [← hBd]; simp only [tkB, Hp.push_blk, Hp.put_blk, Hp.push_next, Hp.put_next, if_true]
  have hNB : N < B.next := by omega
  have gs : ∀ j, (B.put N (.row [fs, tk, .slice none 0 0] g 3)).get G ⟨A.next + 2, j, some 0⟩ = (sC m)[j]? := fun j => by
    simp only [Hp.get, Hp.put_blk]
    rw [if_neg (by omega), hBk]; rfl
  have cs := fun fl D => sortStable_ok (G := G) (fl := fl) (A := D) (o := some ⟨A.next + 2, 0, some 0⟩) (n := 1) (c := 1) (f := .func (.func 13) #[] #[]) (by omega)
  have e2 : A.next + 1 + 1 = A.next + 2 := rfl
  simp only [↓R1, R2, R3, R4, TY, reduceIte, Nat.reduceEqDiff, Nat.reduceAdd, Nat.reduceMul, Nat.reduceLT, Nat.reduceLeDiff, reduceCtorEq, decide_true, decide_false, Int.reduceLE, Int.reduceLT, Int.reduceToNat, Int.reduceAdd, Int.reduceSub, Int.reduceMul, Int.reduceEq, FE, w1, hBN, hNf, hNB, e2]
  refine call_of (cs _ _) ?_
  simp only [↓R1, R2, R3, R4, TY, reduceIte, Nat.reduceEqDiff, Nat.reduceAdd, Nat.reduceMul, Nat.reduceLT, Nat.reduceLeDiff, reduceCtorEq, decide_true, decide_false, Int.reduceLE, Int.reduceLT, Int.reduceToNat, Int.reduceAdd, Int.reduceSub, Int.reduceMul, Int.reduceEq, FE, e2]
  refine unroll_of [(), ()] ?_
  have s0 := gs 0
  have s1 := gs 1
  have s2 := gs 2
  have s3 := gs 3
  have s4 := gs 4
  have s5 := gs 5
  have s6 := gs 6
  simp only [sC, mC, List.getElem?_cons_zero, List.getElem?_cons_succ] at s0 s1 s2 s3 s4 s5 s6
  have hDn : (B.put N (.row [fs, tk, .slice none 0 0] g 3)).next = A.next + 3 := hBn
  have hlt : A.next + 2 < A.next + 3 := by omega
  generalize hD : B.put N (.row [fs, tk, .slice none 0 0] g 3) = D at *
  have hDk : D.blk (A.next + 2) = some (.row (sC m) 0 7) := by
    rw [← hD, Hp.put_blk, if_neg (by omega)]; exact hBk
  have hezD : eszOK D (A.next + 2) 7 := fun cs g e hb => by rw [hDk] at hb; cases hb; rfl
  have hltD : A.next + 2 < D.next := by omega
  have hflD : fl ≤ D.next := by omega
  simp only [↓R1, R2, R3, R4, TY, reduceIte, Nat.reduceEqDiff, Nat.reduceAdd, Nat.reduceMul, Nat.reduceLT, Nat.reduceLeDiff, reduceCtorEq, decide_true, decide_false, Int.reduceLE, Int.reduceLT, Int.reduceToNat, Int.reduceAdd, Int.reduceSub, Int.reduceMul, Int.reduceEq, FE, e2, w1, s0, s1, s2, s3, s4, s5, s6, hz7, hz6, hezD, hltD, hflD, z6l]
  refine apn_nil1 (sz := 6) (cl := mC m) ty34 rfl ty39 rfl (by omega) rfl rfl rfl (by decide) (fun i => by simp [Hp.get, Hp.push_blk, Hp.put_blk, mC]) ?_
  simp only [↓R1, R2, R3, R4, TY, reduceIte, Nat.reduceEqDiff, Nat.reduceAdd, Nat.reduceMul, Nat.reduceLT, Nat.reduceLeDiff, reduceCtorEq, decide_true, decide_false, Int.reduceLE, Int.reduceLT, Int.reduceToNat, Int.reduceAdd, Int.reduceSub, Int.reduceMul, Int.reduceEq, FE, e2, w1]
  refine ⟨by simp [hDn], ?_⟩
  rw [hBd, tkD, hD, show B.next = D.next from by rw [← hD]; rfl]
  rfl
theorem take1_facts {N g : Nat} {fs tk : Value} {m : Mg} (hNn : N < A.next) : (tkD (tkB A m) N g fs tk m).next = A.next + 6 ∧ (tkD (tkB A m) N g fs tk m).blk N = some (.row [fs, tk, .slice none 0 0] g 3) ∧
    (tkD (tkB A m) N g fs tk m).blk (A.next + 5) = some (.row (mC m) 0 6) ∧ ∀ id, id < A.next → id ≠ N → (tkD (tkB A m) N g fs tk m).blk id = A.blk id := by
  refine ⟨rfl, ?_, ?_, fun id hid hne => ?_⟩
  · simp [tkD, tkB, Hp.push_blk, Hp.put_blk, show N ≠ A.next + 1 + 1 + 1 by omega, show N ≠ A.next + 1 + 1 + 1 + 1 by omega, show N ≠ A.next + 1 + 1 + 1 + 1 + 1 by omega]
  · simp [tkD, tkB, Hp.push_blk, Hp.put_blk]
  · simp [tkD, tkB, Hp.push_blk, Hp.put_blk, hne, show id ≠ A.next by omega, show id ≠ A.next + 1 by omega, show id ≠ A.next + 1 + 1 by omega, show id ≠ A.next + 1 + 1 + 1 by omega, show id ≠ A.next + 1 + 1 + 1 + 1 by omega, show id ≠ A.next + 1 + 1 + 1 + 1 + 1 by omega]
def sdH (A : Hp) (N g : Nat) (m : Mg) (C : Hp) : Hp := ((C.push (.row (sC m) 0 7)).push (.row (sC m) 0 7)).put N (.row [.slice none 0 0, .int .i64 m.t, .slice (some ⟨A.next + 2, 0, some 0⟩) 1 1] g 3)
def sdC (A : Hp) (N g : Nat) (m : Mg) : Hp := (A.push (.row (mC m) 0 6)).put N (.row [.slice none 0 0, .int .i64 m.t, .slice none 0 0] g 3)
theorem send_ok {N g : Nat} {tk t : Int} {m : Mg} (hN : A.blk N = some (.row [.slice none 0 0, .int .i64 tk, .slice none 0 0] g 3)) (hNf : fl ≤ N) (hNn : N < A.next) (h0 : 0 ≤ t) (h1 : t ≤ 2000) (h2 : tk ≤ t) (hm : m.ok) (hmt : m.t = t) :
    Sound Try.prog G 10 [.pointer (some ⟨N, 0, some g⟩), .int .i64 t, .agg (mC m).toArray] fl A (.int .i64 0) (sdH A N g m (sdC A N g m)) := by
  subst hmt
  have g0 : A.get G ⟨N, 0, some g⟩ = some (.slice none 0 0) := by simp only [Hp.get, hN, if_true]; rfl
  have g1 : A.get G ⟨N, 1, some g⟩ = some (.int .i64 tk) := by simp only [Hp.get, hN, if_true]; rfl
  have g2 : A.get G ⟨N, 2, some g⟩ = some (.slice none 0 0) := by simp only [Hp.get, hN, if_true]; rfl
  have n0 : (m.t < 0) = False := eq_false (by omega)
  have n1 : (2000 < m.t) = False := eq_false (by omega)
  have n2 : (m.t < tk) = False := eq_false (by omega)
  have hNA : N ≠ A.next := by omega
  have hNA' : (N = A.next) = False := eq_false hNA
  have cm := fun fl A => mcheck_ok (G := G) (fl := fl) (A := A) hm
  have cc := fun fl A => mcopy_ok (G := G) (fl := fl) (A := A) (m := m)
  refine Sound.ofS mixed Try.func10 Try.ntmps10 Try.results10 (by kernel_rfl) rfl (by kernel_rfl) (by kernel_rfl) fun hA => ?_
  have hfl := hA.floor
  simp only [mC]
  simp only [↓R1, R2, R3, R4, TY, reduceIte, Nat.reduceEqDiff, Nat.reduceAdd, Nat.reduceMul, Nat.reduceLT, Nat.reduceLeDiff, reduceCtorEq, decide_true, decide_false, Int.reduceLE, Int.reduceLT, Int.reduceToNat, Int.reduceAdd, Int.reduceSub, Int.reduceMul, Int.reduceEq, FE, n0, n1]
  have gA : ∀ j, (A.push (.row [Value.int .i64 3, .int .i64 m.i, .int .i64 4, .int .i64 m.t, .int .u32 m.c, .slice none 0 0] 0 6)).get G ⟨A.next, j, some 0⟩ = [Value.int .i64 3, .int .i64 m.i, .int .i64 4, .int .i64 m.t, .int .u32 m.c, .slice none 0 0][j]? := fun j => by simp [Hp.get, Hp.push_blk]
  have hBn : (A.push (.row [Value.int .i64 3, .int .i64 m.i, .int .i64 4, .int .i64 m.t, .int .u32 m.c, .slice none 0 0] 0 6)).next = A.next + 1 := rfl
  have hBN : (A.push (.row [Value.int .i64 3, .int .i64 m.i, .int .i64 4, .int .i64 m.t, .int .u32 m.c, .slice none 0 0] 0 6)).blk N = some (.row [.slice none 0 0, .int .i64 tk, .slice none 0 0] g 3) := by simp [Hp.push_blk, hNA, hN]
  have gB : ∀ j, (A.push (.row [Value.int .i64 3, .int .i64 m.i, .int .i64 4, .int .i64 m.t, .int .u32 m.c, .slice none 0 0] 0 6)).get G ⟨N, j, some g⟩ = [Value.slice none 0 0, .int .i64 tk, .slice none 0 0][j]? := fun j => by simp only [Hp.get, hBN, if_true]
  have a0 := gA 0
  have a1 := gA 1
  have a2 := gA 2
  have a3 := gA 3
  have a4 := gA 4
  have a5 := gA 5
  have b0 := gB 0
  have b1 := gB 1
  have b2 := gB 2
  simp only [List.getElem?_cons_zero, List.getElem?_cons_succ] at a0 a1 a2 a3 a4 a5 b0 b1 b2
  simp only [↓R1, R2, R3, R4, TY, reduceIte, Nat.reduceEqDiff, Nat.reduceAdd, Nat.reduceMul, Nat.reduceLT, Nat.reduceLeDiff, reduceCtorEq, decide_true, decide_false, Int.reduceLE, Int.reduceLT, Int.reduceToNat, Int.reduceAdd, Int.reduceSub, Int.reduceMul, Int.reduceEq, FE, n2, a0, a1, a2, a3, a4, a5, b0, b1, b2]
  refine call_of (cm _ _) ?_
  simp only [↓R1, R2, R3, R4, TY, reduceIte, Nat.reduceEqDiff, Nat.reduceAdd, Nat.reduceMul, Nat.reduceLT, Nat.reduceLeDiff, reduceCtorEq, decide_true, decide_false, Int.reduceLE, Int.reduceLT, Int.reduceToNat, Int.reduceAdd, Int.reduceSub, Int.reduceMul, Int.reduceEq, FE, n2, a0, a1, a2, a3, a4, a5, b0, b1, b2]
  refine unroll_of [()] ?_
  have hNB : N < (A.push (.row [Value.int .i64 3, .int .i64 m.i, .int .i64 4, .int .i64 m.t, .int .u32 m.c, .slice none 0 0] 0 6)).next := by rw [hBn]; omega
  have w1 : IntKind.i64.wrap 1 = 1 := rfl
  simp only [↓R1, R2, R3, R4, TY, reduceIte, Nat.reduceEqDiff, Nat.reduceAdd, Nat.reduceMul, Nat.reduceLT, Nat.reduceLeDiff, reduceCtorEq, decide_true, decide_false, Int.reduceLE, Int.reduceLT, Int.reduceToNat, Int.reduceAdd, Int.reduceSub, Int.reduceMul, Int.reduceEq, FE, n2, a0, a1, a2, a3, a4, a5, b0, b1, b2, hNA', hN, hNf, hNB, w1, if_false]
  generalize hC : Hp.put _ N _ = C
  have hCd : sdC A N g m = C := by rw [← hC]; rfl
  have hCn : C.next = A.next + 1 := by rw [← hC]; rfl
  have hCN : C.blk N = some (.row [.slice none 0 0, .int .i64 m.t, .slice none 0 0] g 3) := by rw [← hC]; simp [Hp.put_blk]
  have gN : ∀ j, C.get G ⟨N, j, some g⟩ = [Value.slice none 0 0, .int .i64 m.t, .slice none 0 0][j]? := fun j => by simp only [Hp.get, hCN, if_true]
  have gM : ∀ j, C.get G ⟨A.next, j, some 0⟩ = (mC m)[j]? := fun j => by rw [← hC]; simp [Hp.get, Hp.put_blk, Hp.push_blk, show A.next ≠ N by omega, mC]
  have m0 := gM 0
  have m1 := gM 1
  have m2 := gM 2
  have m3 := gM 3
  have m4 := gM 4
  have m5 := gM 5
  have v2 := gN 2
  simp only [mC, List.getElem?_cons_zero, List.getElem?_cons_succ] at m0 m1 m2 m3 m4 m5 v2
  have hAC : A.next < C.next := by omega
  have hNC : N < C.next := by omega
  have hflC : fl ≤ C.next := by omega
  refine unroll_of [(), ()] ?_
  have w2 : IntKind.i64.wrap (m.t + 1) = m.t + 1 := wrapI (by omega)
  have hz7 : zl [Value.int .i64 0, .int .i64 0, .int .i64 0, .int .i64 0, .int .i64 0, .int .u32 0, .slice none 0 0] 7 = [Value.int .i64 0, .int .i64 0, .int .i64 0, .int .i64 0, .int .i64 0, .int .u32 0, .slice none 0 0] := rfl
  simp only [↓R1, R2, R3, R4, TY, reduceIte, Nat.reduceEqDiff, Nat.reduceAdd, Nat.reduceMul, Nat.reduceLT, Nat.reduceLeDiff, reduceCtorEq, decide_true, decide_false, Int.reduceLE, Int.reduceLT, Int.reduceToNat, Int.reduceAdd, Int.reduceSub, Int.reduceMul, Int.reduceEq, FE, w1, w2, m0, m1, m2, m3, m4, m5, v2, hAC, hNC, hflC, hCN, hNf, Int.add_zero]
  refine call_of (cc _ _) ?_
  simp only [mC]
  simp only [↓R1, R2, R3, R4, TY, reduceIte, Nat.reduceEqDiff, Nat.reduceAdd, Nat.reduceMul, Nat.reduceLT, Nat.reduceLeDiff, reduceCtorEq, decide_true, decide_false, Int.reduceLE, Int.reduceLT, Int.reduceToNat, Int.reduceAdd, Int.reduceSub, Int.reduceMul, Int.reduceEq, FE, w1, w2, hAC, hNC, hflC, hCN, hNf, Int.add_zero, hz7]
  rw [floOf_wr (by kernel_rfl)]
  refine apn_nil1 (sz := 7) (cl := sC m) ty44 rfl ty48 rfl (by omega) rfl rfl rfl (by decide) (fun i => by simp [Hp.get, Hp.push_blk, sC, mC]) ?_
  have hNC' : (N = C.next) = False := eq_false (by omega)
  have hNC2 : (N = C.next + 1) = False := eq_false (by omega)
  simp only [↓R1, R2, R3, R4, TY, reduceIte, Nat.reduceEqDiff, Nat.reduceAdd, Nat.reduceMul, Nat.reduceLT, Nat.reduceLeDiff, reduceCtorEq, decide_true, decide_false, Int.reduceLE, Int.reduceLT, Int.reduceToNat, Int.reduceAdd, Int.reduceSub, Int.reduceMul, Int.reduceEq, FE, w1, w2, hAC, hNC, hflC, hCN, hNf, hNC', hNC2, if_false]
  rw [floOf_wr (by kernel_rfl)]
  simp only [↓R1, R2, R3, R4, TY, reduceIte, Nat.reduceEqDiff, Nat.reduceAdd, Nat.reduceMul, Nat.reduceLT, Nat.reduceLeDiff, reduceCtorEq, decide_true, decide_false, Int.reduceLE, Int.reduceLT, Int.reduceToNat, Int.reduceAdd, Int.reduceSub, Int.reduceMul, Int.reduceEq, FE, w1, w2, hAC, hNC, hflC, hCN, hNf, hNC', hNC2, if_false]
  refine ⟨rfl, ?_⟩
  rw [sdH, hCd, hCn]
  rfl
theorem send_facts {N g : Nat} {m : Mg} (hNn : N < A.next) : (sdH A N g m (sdC A N g m)).next = A.next + 3 ∧ (sdH A N g m (sdC A N g m)).blk N = some (.row [.slice none 0 0, .int .i64 m.t, .slice (some ⟨A.next + 2, 0, some 0⟩) 1 1] g 3) ∧
    (sdH A N g m (sdC A N g m)).blk (A.next + 2) = some (.row (sC m) 0 7) ∧ ∀ id, id < A.next → id ≠ N → (sdH A N g m (sdC A N g m)).blk id = A.blk id := by
  refine ⟨rfl, ?_, ?_, fun id hid hne => ?_⟩
  · simp [sdH, sdC, Hp.push_blk, Hp.put_blk]
  · simp [sdH, sdC, Hp.push_blk, Hp.put_blk, show A.next + 1 + 1 ≠ N by omega, show A.next + 2 ≠ N by omega]
  · simp [sdH, sdC, Hp.push_blk, Hp.put_blk, hne, show id ≠ A.next by omega, show id ≠ A.next + 1 by omega, show id ≠ A.next + 1 + 1 by omega]
end
end Go.Proofs.Ytiiapkhdjchhjaa.Ab
