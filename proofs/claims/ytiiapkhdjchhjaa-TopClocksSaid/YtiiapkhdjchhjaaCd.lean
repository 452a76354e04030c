/- Clocks: TopClocks. -/
import Derived.Test.YtiiapkhdjchhjaaCe
namespace Go.Proofs.Ytiiapkhdjchhjaa.Ab
open Go.RowKit
set_option linter.unusedVariables false
set_option linter.unusedSimpArgs false
set_option maxRecDepth 100000

def iC (x : Int) : List Value := [.int .i64 x]
def z6 : List Value := [.int .i64 0, .int .i64 0, .int .i64 0, .int .i64 0, .int .u32 0, .slice none 0 0]
/-- A fault as the law takes it. -/
def red (f : Fa) : Fa := ⟨below f.a 60, below f.b 6, below f.c 4⟩
theorem Sl.pre {A : Hp} {sz n c j : Nat} {a : Addr} {css : List (List Value)} (h : Sl A sz (.slice (some a) n c) css) (hj : j ≤ n) : Sl A sz (.slice (some (aadd a 0)) j c) (css.take j) := by
  have e : aadd a 0 = a := by cases a; simp [aadd]
  rw [e]
  refine ⟨fun x hx => h.1 x (List.mem_of_mem_take hx), ?_⟩
  rcases h.2 with ⟨h1, _⟩ | ⟨a', g, h1, h2, h3, h4, h5⟩ | ⟨a', n', c', g, ds, h1, hn, hg, hb, hr⟩
  · cases h1
  · cases h1
    obtain rfl : j = 0 := by omega
    exact .inr (.inl ⟨a, g, rfl, by simp, h3, h4, h5⟩)
  · cases h1
    refine .inr (.inr ⟨a, j, c, g, ds, rfl, by simp; omega, hg, hb, fun i x hi => hr i x ?_⟩)
    rw [← List.take_append_drop j css, List.flatten_append, List.getElem?_append_left (List.getElem?_eq_some_iff.1 hi).1]
    exact hi
section
variable {G : Gl} {fl : Nat} {A : Hp}
theorem int_get {B : Hp} {a : Addr} {n c : Nat} {l : List Int} (h : Sl B 1 (.slice (some a) n c) (l.map iC)) {i : Nat} (hi : i < l.length) : B.get G (aadd a i) = some (.int .i64 l[i]) := by
  obtain ⟨a', h1, h2⟩ := h.at (G := G) (i := i) (by simpa using hi)
  cases h1
  simp only [List.getElem_map] at h2
  have := h2 0 _ rfl
  simpa using this
set_option maxHeartbeats 8000000 in
theorem topClocks_calls {v1 v2 : Value} {fs : List Fa} {ss : List Int} {x : Int} (h1 : Sl A 3 v1 (fs.map fC)) (hl1 : fs.length ≤ 9223372036854775807) (h2 : Sl A 1 v2 (ss.map iC)) (hl2 : ss.length ≤ 9223372036854775807) :
    ∀ (μ : Mu) (W : World) (args' : Array Value), HR G μ fl A W → fl ≤ A.next → VRa μ A [v1, v2, .int .i64 x].toArray args' →
    Calls Try.prog 3 args' W fun e w' => ∃ u, e = .returned u ∧ ∃ ν, VR ν A (.bool true) u ∧ HR G ν fl A w' ∧ Trans fl μ A W ν A w' := by
  refine calls_of mixed Try.func3 Try.ntmps3 Try.results3 (by kernel_rfl) rfl (by kernel_rfl) (by kernel_rfl) fun hA => ?_
  have hfl := hA.floor
  have cb := fun fl => before_ok (G := G) (fl := fl) (A := A) (a := 3) (b := 9) (lost := 5) (by omega) (by omega)
  have e96 : decide (5 < dif 9 3) = true := rfl
  rw [e96] at cb
  have cl := fun fl => below_ok (G := G) (fl := fl) (A := A) (x := x) (n := 10) (by omega) (by omega)
  obtain ⟨o1, k1, rfl⟩ := h1.len
  obtain ⟨o2, k2, rfl⟩ := h2.len
  rw [List.length_map] at h1 h2
  rw [List.length_map, List.length_map]
  have lr := below_range (x := x) (n := 10) (by omega)
  generalize below x 10 = lost at *
  obtain ⟨q, hq⟩ : ∃ q, q = min fs.length 12 := ⟨_, rfl⟩
  have mn : (if 12 < (fs.length : Int) then (12 : Int) else (fs.length : Int)) = ((q : Nat) : Int) := by split <;> omega
  have q0 : (0 : Int) ≤ ((q : Nat) : Int) := by omega
  have qn : (Int.toNat ((q : Nat) : Int)) = q := rfl
  simp only [↓R1, R2, R3, R4, TY, reduceIte, Nat.reduceEqDiff, Nat.reduceAdd, Nat.reduceMul, Nat.reduceLT, Nat.reduceLeDiff, reduceCtorEq, decide_true, decide_false, Int.reduceLE, Int.reduceLT, Int.reduceToNat, Int.reduceAdd, Int.reduceSub, Int.reduceMul, Int.reduceEq, FE]
  refine call_of (cb _) ?_
  simp only [↓R1, R2, R3, R4, TY, reduceIte, Nat.reduceEqDiff, Nat.reduceAdd, Nat.reduceMul, Nat.reduceLT, Nat.reduceLeDiff, reduceCtorEq, decide_true, decide_false, Int.reduceLE, Int.reduceLT, Int.reduceToNat, Int.reduceAdd, Int.reduceSub, Int.reduceMul, Int.reduceEq, FE]
  refine call_of (cl _) ?_
  simp only [↓R1x, R2, R3, R4, TY, reduceIte, Nat.reduceEqDiff, Nat.reduceAdd, Nat.reduceMul, Nat.reduceLT, Nat.reduceLeDiff, reduceCtorEq, decide_true, decide_false, Int.reduceLE, Int.reduceLT, Int.reduceToNat, Int.reduceAdd, Int.reduceSub, Int.reduceMul, Int.reduceEq, FE, mn, q0, Int.toNat_natCast]
  simp only [k_then]
  simp only [↓R1x, R2, R3, R4, TY, reduceIte, Nat.reduceEqDiff, Nat.reduceAdd, Nat.reduceMul, Nat.reduceLT, Nat.reduceLeDiff, reduceCtorEq, decide_true, decide_false, Int.reduceLE, Int.reduceLT, Int.reduceToNat, Int.reduceAdd, Int.reduceSub, Int.reduceMul, Int.reduceEq, FE, mn, q0, Int.toNat_natCast]
  simp only [k_then]
  simp only [↓R1x, R2, R3, R4, TY, reduceIte, Nat.reduceEqDiff, Nat.reduceAdd, Nat.reduceMul, Nat.reduceLT, Nat.reduceLeDiff, reduceCtorEq, decide_true, decide_false, Int.reduceLE, Int.reduceLT, Int.reduceToNat, Int.reduceAdd, Int.reduceSub, Int.reduceMul, Int.reduceEq, FE, mn, q0, Int.toNat_natCast]
  have hqt : ((fs.take q).map fC).length = q := by simp; omega
  apply merge (fun τ B => B = A ∧ ∃ o c, Sl A 3 (.slice o q c) ((fs.take q).map fC) ∧ τ 40 = some (.slice o q c) ∧ τ 41 = some (.int .i64 (q : Nat)) ∧ τ 42 = some (.int .i64 0) ∧ τ 1 = some (.slice o2 ss.length k2) ∧ τ 2 = some (.int .i64 lost) ∧ τ 9 = some (.slice none 0 0))
  · intro tail
    cases o1 with
    | none =>
      have hn0 : fs.length = 0 ∧ k1 = 0 := by
        rcases h1.2 with ⟨h, h'⟩ | ⟨a, g, h, _⟩ | ⟨a, n, c, g, ds, h, _⟩
        · injection h with _ ha hb; exact ⟨ha, hb⟩
        · injection h with ha; cases ha
        · injection h with ha; cases ha
      obtain ⟨hf0, hk0⟩ := hn0
      have hq0 : q = 0 := by omega
      have ex : (∃ e T, some (TD.sl 30) = some (TD.sl e) ∧ tyOf Try.prog e = some T) = True := eq_true ⟨_, _, rfl, ty30⟩
      simp only [↓R1x, R2, R3, R4, TY, reduceIte, Nat.reduceEqDiff, Nat.reduceAdd, Nat.reduceMul, Nat.reduceLT, Nat.reduceLeDiff, reduceCtorEq, decide_true, decide_false, Int.reduceLE, Int.reduceLT, Int.reduceToNat, Int.reduceAdd, Int.reduceSub, Int.reduceMul, Int.reduceEq, FE, hf0, hk0, hq0, List.length_nil, Option.getD_some, ex]
      simp only [k_then]
      refine tail _ _ ⟨rfl, none, 0, ?_, ?_, ?_, rfl, rfl, rfl, rfl⟩
      · rw [hq0]; exact ⟨by simp, .inl ⟨rfl, by simp⟩⟩
      · rw [hq0]; rfl
      · rw [hq0]; rfl
    | some a =>
      have hez := h1.esz
      have hqn : q ≤ fs.length := by omega
      have hpre := h1.pre (j := q) hqn
      rw [← List.map_take] at hpre
      have hqq : (q ≤ fs.length ∨ q ≤ k1) = True := eq_true (.inl hqn)
      simp only [↓R1x, R2, R3, R4, TY, reduceIte, Nat.reduceEqDiff, Nat.reduceAdd, Nat.reduceMul, Nat.reduceLT, Nat.reduceLeDiff, reduceCtorEq, decide_true, decide_false, Int.reduceLE, Int.reduceLT, Int.reduceToNat, Int.reduceAdd, Int.reduceSub, Int.reduceMul, Int.reduceEq, FE, hez, hqq, Option.getD_some, Nat.zero_le, Nat.zero_mul, Nat.sub_zero]
      simp only [k_then]
      exact tail _ _ ⟨rfl, _, _, hpre, rfl, rfl, rfl, rfl, rfl, rfl⟩
  rintro τ B ⟨hBA, o, c, hs, p40, p41, p42, p1, p2, p9⟩
  subst hBA
  have hql : (fs.take q).length = q := by simp; omega
  have hq12 : q ≤ 12 := by omega
  generalize fs.take q = qs at hs hql hqt
  simp only [↓R1x, R2, R3, R4, TY, reduceIte, Nat.reduceEqDiff, Nat.reduceAdd, Nat.reduceMul, Nat.reduceLT, Nat.reduceLeDiff, reduceCtorEq, decide_true, decide_false, Int.reduceLE, Int.reduceLT, Int.reduceToNat, Int.reduceAdd, Int.reduceSub, Int.reduceMul, Int.reduceEq, FE, p40, p41, p42, p1, p2, p9]
  refine range_of 42 q (fun j τ D => ∃ sb, Xt B.next B D ∧ Acn D B.next 3 sb (((qs.take j).map red).map fC) ∧ τ 1 = some (.slice o2 ss.length k2) ∧ τ 2 = some (.int .i64 lost) ∧ τ 9 = some sb ∧ τ 40 = some (.slice o q c) ∧ τ 41 = some (.int .i64 (q : Nat)) ∧ τ 42 = some (.int .i64 (j : Nat))) ?_ ?_
  · exact ⟨_, Xt.refl _, Acn.none, p1, p2, p9, p40, p41, p42⟩
  clear p1 p2 p9 p40 p41 p42
  rintro j τ D hj ⟨sb, hx, hac, p1, p2, p9, p40, p41, p42⟩
  simp only [↓R1x, R2, R3, R4, TY, reduceIte, Nat.reduceEqDiff, Nat.reduceAdd, Nat.reduceMul, Nat.reduceLT, Nat.reduceLeDiff, reduceCtorEq, decide_true, decide_false, Int.reduceLE, Int.reduceLT, Int.reduceToNat, Int.reduceAdd, Int.reduceSub, Int.reduceMul, Int.reduceEq, FE, p40, p41, p42, p1, p2, p9]
  simp only [k_then]
  simp only [↓R1x, R2, R3, R4, TY, reduceIte, Nat.reduceEqDiff, Nat.reduceAdd, Nat.reduceMul, Nat.reduceLT, Nat.reduceLeDiff, reduceCtorEq, decide_true, decide_false, Int.reduceLE, Int.reduceLT, Int.reduceToNat, Int.reduceAdd, Int.reduceSub, Int.reduceMul, Int.reduceEq, FE, p40, p41, p42, p1, p2, p9]
  refine ⟨fun hlt => ?_, fun hlt => ?_⟩
  rotate_left
  · obtain rfl : j = q := by omega
    rw [← hql, List.take_length] at hac
    have few12 : (qs.map red).length ≤ 12 := by simp; omega
    generalize qs.map red = few at hac few12
    have cn := fun fl => new_ok (G := G) (fl := fl) (A := D)
    simp only [↓R1x, R2, R3, R4, TY, reduceIte, Nat.reduceEqDiff, Nat.reduceAdd, Nat.reduceMul, Nat.reduceLT, Nat.reduceLeDiff, reduceCtorEq, decide_true, decide_false, Int.reduceLE, Int.reduceLT, Int.reduceToNat, Int.reduceAdd, Int.reduceSub, Int.reduceMul, Int.reduceEq, FE]
    simp only [k_then]
    simp only [↓R1x, R2, R3, R4, TY, reduceIte, Nat.reduceEqDiff, Nat.reduceAdd, Nat.reduceMul, Nat.reduceLT, Nat.reduceLeDiff, reduceCtorEq, decide_true, decide_false, Int.reduceLE, Int.reduceLT, Int.reduceToNat, Int.reduceAdd, Int.reduceSub, Int.reduceMul, Int.reduceEq, FE, p1, p2, p9]
    refine call_of (cn _) ?_
    simp only [↓R1, R2, R3, R4, TY, reduceIte, Nat.reduceEqDiff, Nat.reduceAdd, Nat.reduceMul, Nat.reduceLT, Nat.reduceLeDiff, reduceCtorEq, decide_true, decide_false, Int.reduceLE, Int.reduceLT, Int.reduceToNat, Int.reduceAdd, Int.reduceSub, Int.reduceMul, Int.reduceEq, FE, p1, p2, p9, Option.isNone_some]
    generalize hE : Hp.push (Hp.push D _) _ = E
    have hEn : E.next = D.next + 2 := by rw [← hE]; rfl
    have hEN : E.blk D.next = some (.row [.slice none 0 0, .int .i64 0, .slice none 0 0] 0 3) := by rw [← hE]; simp [Hp.push_blk]
    have hEM : E.blk (D.next + 1) = some (.mp [] 0) := by rw [← hE]; simp [Hp.push_blk]
    have hxDE : Xt D.next D E := by rw [← hE]; exact ((Xt.refl D).push _).push _
    clear hE
    have hfD : fl ≤ D.next := Nat.le_trans hfl hx.next
    have hxBE := hx.trans hxDE
    have hI0 : NetI E E D.next lost 0 0 0 (.slice none 0 0) [] none := ⟨Nat.le_refl _, fun _ _ => rfl, ⟨0, _, hEN, by omega, fun _ => rfl, fun m h => by cases h⟩, ⟨[], 0, hEM, rfl, fun e he => by cases he⟩, ⟨by simp, by simp, .inl ⟨rfl, rfl⟩⟩, fun m h => by rcases h with h | h <;> cases h⟩
    have hsE : Sl E 3 sb (few.map fC) := (hac.xt hxDE).sl
    obtain ⟨os, cs, hos⟩ := hsE.len
    rw [List.length_map] at hos
    have hfb : ∀ a, os = some a → a.block < D.next := fun a ha => hac.lt (n := few.length) (c := cs) (by rw [hos, ha])
    have hBN := hx.next
    generalize D.next = N at hfb hBN hEn hEN hEM hI0 hfD hxDE ⊢
    refine range_of 64 60 (fun j τ H => ∃ sg gl pend cnt, NetI E H N lost j j cnt sg gl pend ∧ cnt = gl.length + (pnL pend).length ∧ cnt ≤ j ∧ τ 1 = some (.slice o2 ss.length k2) ∧ τ 2 = some (.int .i64 lost) ∧ τ 9 = some (.slice os few.length cs) ∧ τ 12 = some (.pointer (some ⟨N, 0, some 0⟩)) ∧
      τ 13 = some (.map (some (N + 1))) ∧ τ 14 = some sg ∧ τ 64 = some (.int .i64 (j : Nat))) ?_ ?_
    · exact ⟨_, _, _, _, hI0, rfl, Nat.le_refl _, p1, p2, by rw [← hos]; exact p9, rfl, rfl, rfl, rfl⟩
    rw [hos] at hsE
    clear p1 p2 p9 p40 p41 p42 hEN hEM hI0
    rintro j τ H hj ⟨sg, gl, pend, cnt, hI, hcnt, hcj, p1, p2, p9, p12, p13, p14, p64⟩
    simp only [↓R1x, R2, R3, R4, TY, reduceIte, Nat.reduceEqDiff, Nat.reduceAdd, Nat.reduceMul, Nat.reduceLT, Nat.reduceLeDiff, reduceCtorEq, decide_true, decide_false, Int.reduceLE, Int.reduceLT, Int.reduceToNat, Int.reduceAdd, Int.reduceSub, Int.reduceMul, Int.reduceEq, FE, p1, p2, p9, p12, p13, p14, p64]
    simp only [k_then]
    simp only [↓R1x, R2, R3, R4, TY, reduceIte, Nat.reduceEqDiff, Nat.reduceAdd, Nat.reduceMul, Nat.reduceLT, Nat.reduceLeDiff, reduceCtorEq, decide_true, decide_false, Int.reduceLE, Int.reduceLT, Int.reduceToNat, Int.reduceAdd, Int.reduceSub, Int.reduceMul, Int.reduceEq, FE, p1, p2, p9, p12, p13, p14, p64]
    refine ⟨fun hlt => ?_, fun hlt => ?_⟩
    rotate_left
    · obtain ⟨v, C, hsnd, hIC, hsv, hHC⟩ := take_step (G := G) (fl := fl) hI hEn hfD (T := 99) (by omega)
      simp only [k_then]
      simp only [↓R1, R2, R3, R4, TY, reduceIte, Nat.reduceEqDiff, Nat.reduceAdd, Nat.reduceMul, Nat.reduceLT, Nat.reduceLeDiff, reduceCtorEq, decide_true, decide_false, Int.reduceLE, Int.reduceLT, Int.reduceToNat, Int.reduceAdd, Int.reduceSub, Int.reduceMul, Int.reduceEq, FE, p1, p2, p9, p12, p13, p14, p64]
      refine call_of hsnd ?_
      simp only [↓R1, R2, R3, R4, TY, reduceIte, Nat.reduceEqDiff, Nat.reduceAdd, Nat.reduceMul, Nat.reduceLT, Nat.reduceLeDiff, reduceCtorEq, decide_true, decide_false, Int.reduceLE, Int.reduceLT, Int.reduceToNat, Int.reduceAdd, Int.reduceSub, Int.reduceMul, Int.reduceEq, FE, p1, p2, p9, p12, p13, p14, p64]
      have hpl : (pnL pend).length ≤ 1 := by cases pend <;> simp [pnL]
      have hCn := hIC.nx
      refine apn_of (lo := N + 2) (sz := 6) ty34 rfl ty39 ty34 rfl rfl (by omega) rfl hIC.got (by omega) (by omega) hsv (fun c hc u hu => ?_) (by simp; omega) (by simp; omega) ?_
      · obtain ⟨m, -, rfl⟩ := List.mem_map.1 hc
        simp only [mC, List.mem_cons, List.not_mem_nil, or_false] at hu
        rcases hu with rfl | rfl | rfl | rfl | rfl | rfl <;> rfl
      intro sg' H3 hac3 hx3 hn3 hf3 hsome hid
      rw [← List.map_append] at hac3
      have hgl : ∀ m ∈ gl ++ pnL pend, Gdm lost m := fun m hm => hI.good m (List.mem_append.1 hm)
      have hI3 := hIC.app hx3 hn3 hac3 hgl
      have hlen3 : (gl ++ pnL pend).length = cnt := by rw [List.length_append]; exact hcnt.symm
      generalize gl ++ pnL pend = gl3 at hI3 hlen3 hgl hac3
      clear hsnd hIC hsv hx3 hn3 hf3 hsome hid hHC hCn
      obtain ⟨el, ck, m1, m2, m3⟩ := hI3.mp
      obtain ⟨o3, k3, rfl⟩ : ∃ o c, sg' = .slice o gl3.length c := by
        rcases hac3.at_ with ⟨h, h'⟩ | ⟨id, g, n, c, h, h2, h3, h4, h5, h6⟩
        · have h0 : gl3.length = 0 := by simpa using h'
          exact ⟨none, 0, by rw [h, h0]⟩
        · exact ⟨_, _, by rw [h, ← h6, List.length_map]⟩
      have hel : (ents (Value.int .i64) el).length = gl3.length := by simp [ents, m2, hlen3]
      have hxA : Xt B.next B H3 := ⟨fun id hid => (hI3.old id (by omega)).trans (hxBE.blk id hid), by have := hI3.nx; omega⟩
      simp only [↓R1, R2, R3, R4, TY, reduceIte, Nat.reduceEqDiff, Nat.reduceAdd, Nat.reduceMul, Nat.reduceLT, Nat.reduceLeDiff, reduceCtorEq, decide_true, decide_false, Int.reduceLE, Int.reduceLT, Int.reduceToNat, Int.reduceAdd, Int.reduceSub, Int.reduceMul, Int.reduceEq, FE, p1, p2, p9, p12, p13, p14, p64, m1, hel]
      have slx : ∀ H, Xt H3.next H3 H → Ac H (N + 2) 6 (.slice o3 gl3.length k3) (gl3.map mC) := fun H x => hac3.up x.next fun id _ h => x.blk id h
      have hz6 : zl [Value.int .i64 0, .int .i64 0, .int .i64 0, .int .i64 0, .int .u32 0, .slice none 0 0] 6 = [Value.int .i64 0, .int .i64 0, .int .i64 0, .int .i64 0, .int .u32 0, .slice none 0 0] := rfl
      have hgn : gl3.length ≤ 61 := by omega
      have hfl3 : fl ≤ H3.next := Nat.le_trans hfl hxA.next
      refine range_of 116 gl3.length (fun a τ H => Xt H3.next H3 H ∧ τ 2 = some (.int .i64 lost) ∧ τ 14 = some (.slice o3 gl3.length k3) ∧ τ 114 = some (.slice o3 gl3.length k3) ∧ τ 115 = some (.int .i64 gl3.length) ∧ τ 116 = some (.int .i64 (a : Nat))) ?_ ?_
      · exact ⟨Xt.refl _, p2, rfl, rfl, rfl, rfl⟩
      clear p1 p2 p9 p12 p13 p14 p64
      rintro ia τ HA hia ⟨hxa, p2, p14, p114, p115, p116⟩
      simp only [↓R1, R2, R3, R4, TY, reduceIte, Nat.reduceEqDiff, Nat.reduceAdd, Nat.reduceMul, Nat.reduceLT, Nat.reduceLeDiff, reduceCtorEq, decide_true, decide_false, Int.reduceLE, Int.reduceLT, Int.reduceToNat, Int.reduceAdd, Int.reduceSub, Int.reduceMul, Int.reduceEq, FE, p2, p14, p114, p115, p116]
      refine ⟨fun hlt => ?_, fun hlt => ?_⟩
      rotate_left
      · exact Ended.back hA (hxA.trans hxa) rfl (RB.bool _)
      have slA := (slx HA hxa).sl
      obtain ⟨a3, rfl, -⟩ := slA.at (G := G) (i := ia) (by simpa using hlt)
      have hab3 : a3.block < HA.next := (slx HA hxa).lt rfl
      obtain ⟨g0, g1, g2, g3, g4, g5⟩ := mg_get (G := G) slA hlt
      have hga := hgl _ (List.getElem_mem hlt)
      generalize gl3[ia] = ma at *
      have hflA : fl ≤ HA.next := Nat.le_trans hfl3 hxa.next
      have hezA := slA.esz
      have k116 := p116
      have hia63 : ia < 9223372036854775807 := by omega
      simp only [↓R1, R2, R3, R4, TY, reduceIte, Nat.reduceEqDiff, Nat.reduceAdd, Nat.reduceMul, Nat.reduceLT, Nat.reduceLeDiff, reduceCtorEq, decide_true, decide_false, Int.reduceLE, Int.reduceLT, Int.reduceToNat, Int.reduceAdd, Int.reduceSub, Int.reduceMul, Int.reduceEq, FE, p2, p14, p114, p115, p116, hlt, hab3, g0, g1, g2, g3, g4, g5, hz6, hflA, hezA]
      generalize hK : Hp.put _ HA.next _ = K
      have hKd : (HA.push (.row z6 0 6)).put HA.next (.row (mC ma) 0 6) = K := by rw [← hK]; rfl
      have hKn : K.next = HA.next + 1 := by rw [← hKd]; rfl
      have hxK : Xt HA.next HA K := by rw [← hKd]; exact ((Xt.refl HA).push _).put (Nat.le_refl _) _
      have hKm : ∀ i, K.get G ⟨HA.next, i, some 0⟩ = (mC ma)[i]? := fun i => by rw [← hKd]; simp [Hp.get, Hp.put_blk]
      clear hK hKd
      have hxaK := hxa.trans hxK
      refine range_of 122 gl3.length (fun b τ H => Xt K.next K H ∧ τ 2 = some (.int .i64 lost) ∧ τ 14 = some (.slice (some a3) gl3.length k3) ∧ τ 114 = some (.slice (some a3) gl3.length k3) ∧ τ 115 = some (.int .i64 gl3.length) ∧ τ 116 = some (.int .i64 (ia : Nat)) ∧
        τ 19 = some (.pointer (some ⟨HA.next, 0, some 0⟩)) ∧ τ 120 = some (.slice (some a3) gl3.length k3) ∧ τ 121 = some (.int .i64 gl3.length) ∧ τ 122 = some (.int .i64 (b : Nat))) ?_ ?_
      · exact ⟨Xt.refl _, p2, p14, p114, p115, p116, rfl, rfl, rfl, rfl⟩
      clear p2 p14 p114 p115 p116
      rintro ib τ HB hib ⟨hxb, p2, p14, p114, p115, p116, p19, p120, p121, p122⟩
      simp only [↓R1, R2, R3, R4, TY, reduceIte, Nat.reduceEqDiff, Nat.reduceAdd, Nat.reduceMul, Nat.reduceLT, Nat.reduceLeDiff, reduceCtorEq, decide_true, decide_false, Int.reduceLE, Int.reduceLT, Int.reduceToNat, Int.reduceAdd, Int.reduceSub, Int.reduceMul, Int.reduceEq, FE, p2, p14, p114, p115, p116, p19, p120, p121, p122]
      refine ⟨fun hlt2 => ?_, fun hlt2 => ?_⟩
      rotate_left
      · simp only [↓R1, R2, R3, R4, TY, reduceIte, Nat.reduceEqDiff, Nat.reduceAdd, Nat.reduceMul, Nat.reduceLT, Nat.reduceLeDiff, reduceCtorEq, decide_true, decide_false, Int.reduceLE, Int.reduceLT, Int.reduceToNat, Int.reduceAdd, Int.reduceSub, Int.reduceMul, Int.reduceEq, FE, p2, p14, p114, p115, p116, hia63]
        exact range_on k116 hlt rfl ⟨hxaK.trans hxb, p2, p14, p114, p115, rfl⟩
      have hxB := hxaK.trans hxb
      have slB := (slx HB hxB).sl
      have habB : a3.block < HB.next := (slx HB hxB).lt rfl
      obtain ⟨t0, t1, t2, t3, t4, t5⟩ := mg_get (G := G) slB hlt2
      have hgb := hgl _ (List.getElem_mem hlt2)
      generalize gl3[ib] = mb at *
      have hflB : fl ≤ HB.next := Nat.le_trans hfl3 hxB.next
      have hezB := slB.esz
      have k122 := p122
      have hib63 : ib < 9223372036854775807 := by omega
      have hnl : HA.next < HB.next := by have := hxb.next; omega
      have rA : ∀ i, ((HB.push (.row [.int .i64 0, .int .i64 0, .int .i64 0, .int .i64 0, .int .u32 0, .slice none 0 0] 0 6)).put HB.next (.row [.int .i64 3, .int .i64 mb.i, .int .i64 4, .int .i64 mb.t, .int .u32 mb.c, .slice none 0 0] 0 6)).get G ⟨HA.next, i, some 0⟩ = (mC ma)[i]? := fun i => by
        rw [← hKm i]
        have h1 := hxb.blk HA.next (by omega)
        have hne : HA.next ≠ HB.next := by omega
        simp [Hp.get, Hp.put_blk, Hp.push_blk, hne, h1]
      have rA3 := rA 3
      have rA4 := rA 4
      simp only [mC, List.getElem?_cons_zero, List.getElem?_cons_succ] at rA3 rA4
      have cbf := fun fl B => before_ok (G := G) (fl := fl) (A := B) (a := ma.c) (b := mb.c) lr.1 (by omega : lost ≤ 1048576)
      have hxL : ∀ r s : Blk, Xt K.next K ((HB.push r).put HB.next s) := fun r s => (hxb.push r).put hxb.next s
      simp only [↓R1, R2, R3, R4, TY, reduceIte, Nat.reduceEqDiff, Nat.reduceAdd, Nat.reduceMul, Nat.reduceLT, Nat.reduceLeDiff, reduceCtorEq, decide_true, decide_false, Int.reduceLE, Int.reduceLT, Int.reduceToNat, Int.reduceAdd, Int.reduceSub, Int.reduceMul, Int.reduceEq, FE, p2, p14, p114, p115, p116, p19, p120, p121, p122, hlt2, habB, t0, t1, t2, t3, t4, t5, hz6, hflB, hezB, rA3, rA4]
      refine call_of (cbf _ _) ?_
      by_cases hbf : lost < dif mb.c ma.c
      · have hlt3 := Gdm.before (by omega) hga hgb hbf
        have hno : (mb.t ≤ ma.t) = False := eq_false (by omega)
        rw [decide_eq_true hbf]
        simp only [↓R1, R2, R3, R4, TY, reduceIte, Nat.reduceEqDiff, Nat.reduceAdd, Nat.reduceMul, Nat.reduceLT, Nat.reduceLeDiff, reduceCtorEq, decide_true, decide_false, Int.reduceLE, Int.reduceLT, Int.reduceToNat, Int.reduceAdd, Int.reduceSub, Int.reduceMul, Int.reduceEq, FE, p2, p14, p114, p115, p116, p19, p120, p121, p122, rA3, rA4, hno, hib63]
        exact range_on k122 hlt2 rfl ⟨hxL _ _, p2, p14, p114, p115, p116, p19, p120, p121, rfl⟩
      · rw [decide_eq_false hbf]
        simp only [↓R1, R2, R3, R4, TY, reduceIte, Nat.reduceEqDiff, Nat.reduceAdd, Nat.reduceMul, Nat.reduceLT, Nat.reduceLeDiff, reduceCtorEq, decide_true, decide_false, Int.reduceLE, Int.reduceLT, Int.reduceToNat, Int.reduceAdd, Int.reduceSub, Int.reduceMul, Int.reduceEq, FE, p2, p14, p114, p115, p116, p19, p120, p121, p122, rA3, rA4, hib63]
        exact range_on k122 hlt2 rfl ⟨hxL _ _, p2, p14, p114, p115, p116, p19, p120, p121, rfl⟩
    have few_sl : ∀ H : Hp, E.next ≤ H.next → (∀ id, id < N → H.blk id = E.blk id) → Sl H 3 (.slice os few.length cs) (few.map fC) := fun H hn ho => hsE.keep hn fun a n c e => by injection e with e1; exact ho _ (hfb a e1)
    have xtH : ∀ H : Hp, E.next ≤ H.next → (∀ id, id < N → H.blk id = E.blk id) → Xt B.next B H := fun H hn ho => ⟨fun id hid => (ho id (by omega)).trans (hxBE.blk id hid), by omega⟩
    obtain ⟨v, C, hsnd, hIC, hsv, hHC⟩ := take_step (G := G) (fl := fl) hI hEn hfD (T := (j : Int)) (Int.le_refl _)
    simp only [↓R1, R2, R3, R4, TY, reduceIte, Nat.reduceEqDiff, Nat.reduceAdd, Nat.reduceMul, Nat.reduceLT, Nat.reduceLeDiff, reduceCtorEq, decide_true, decide_false, Int.reduceLE, Int.reduceLT, Int.reduceToNat, Int.reduceAdd, Int.reduceSub, Int.reduceMul, Int.reduceEq, FE, p1, p2, p9, p12, p13, p14, p64]
    refine call_of hsnd ?_
    simp only [↓R1, R2, R3, R4, TY, reduceIte, Nat.reduceEqDiff, Nat.reduceAdd, Nat.reduceMul, Nat.reduceLT, Nat.reduceLeDiff, reduceCtorEq, decide_true, decide_false, Int.reduceLE, Int.reduceLT, Int.reduceToNat, Int.reduceAdd, Int.reduceSub, Int.reduceMul, Int.reduceEq, FE, p1, p2, p9, p12, p13, p14, p64]
    have hpl : (pnL pend).length ≤ 1 := by cases pend <;> simp [pnL]
    have hCn := hIC.nx
    refine apn_of (lo := N + 2) (sz := 6) ty34 rfl ty39 ty34 rfl rfl (by omega) rfl hIC.got (by omega) (by omega) hsv (fun c hc u hu => ?_) (by simp; omega) (by simp; omega) ?_
    · obtain ⟨m, -, rfl⟩ := List.mem_map.1 hc
      simp only [mC, List.mem_cons, List.not_mem_nil, or_false] at hu
      rcases hu with rfl | rfl | rfl | rfl | rfl | rfl <;> rfl
    intro sg' H3 hac3 hx3 hn3 hf3 hsome hid
    rw [← List.map_append] at hac3
    have hI3 := hIC.app hx3 hn3 hac3 (fun m hm => hI.good m (List.mem_append.1 hm))
    have hlen3 : (gl ++ pnL pend).length = cnt := by rw [List.length_append]; exact hcnt.symm
    generalize gl ++ pnL pend = gl3 at hI3 hlen3
    clear hsnd hIC hsv hx3 hn3 hf3 hsome hid hac3 hHC hCn
    have k64 := p64
    have hj63 : j < 9223372036854775807 := by omega
    simp only [↓R1, R2, R3, R4, TY, reduceIte, Nat.reduceEqDiff, Nat.reduceAdd, Nat.reduceMul, Nat.reduceLT, Nat.reduceLeDiff, reduceCtorEq, decide_true, decide_false, Int.reduceLE, Int.reduceLT, Int.reduceToNat, Int.reduceAdd, Int.reduceSub, Int.reduceMul, Int.reduceEq, FE, p1, p2, p9, p12, p13, p14, p64, hj63]
    refine ⟨fun hge => ?_, fun hge => ?_⟩
    · exact range_on k64 (by omega) rfl ⟨sg', gl3, none, cnt, hI3.later (by omega) (by omega), by simp [pnL, hlen3], by omega, p1, p2, p9, p12, p13, rfl, rfl⟩
    have hjs : j < ss.length := by omega
    have hxB3 := xtH H3 hI3.nx hI3.old
    have h23 := h2.xt hA hxB3
    obtain ⟨a2, rfl, -⟩ := h2.at (G := G) (i := j) (by simpa using hjs)
    have hab2 : a2.block < H3.next := Nat.lt_of_lt_of_le (h2.lt hA) hxB3.next
    have u2 := int_get (G := G) h23 hjs
    have lr4 := below_range (x := ss[j]) (n := 4) (by omega)
    have b4 := fun fl => below_ok (G := G) (fl := fl) (A := H3) (x := ss[j]) (n := 4) (by omega) (by omega)
    generalize ss[j] = s at *
    generalize hbi : below s 4 = bi at b4 lr4
    have csh := fun fl => show_ok (G := G) (fl := fl) (s := 7) (i := bi) (t := (j : Int)) (few_sl H3 hI3.nx hI3.old) few12 (by omega) (by omega)
    have hlo : lostN few bi (j : Int) ≤ few.length := List.countP_le_length
    rw [aft_eq] at csh
    generalize hlod : lostN few bi (j : Int) = lo at csh hlo
    have hz6 : zl [Value.int .i64 0, .int .i64 0, .int .i64 0, .int .i64 0, .int .u32 0, .slice none 0 0] 6 = [Value.int .i64 0, .int .i64 0, .int .i64 0, .int .i64 0, .int .u32 0, .slice none 0 0] := rfl
    have hfl3 : fl ≤ H3.next := by have := hI3.nx; omega
    simp only [↓R1, R2, R3, R4, TY, reduceIte, Nat.reduceEqDiff, Nat.reduceAdd, Nat.reduceMul, Nat.reduceLT, Nat.reduceLeDiff, reduceCtorEq, decide_true, decide_false, Int.reduceLE, Int.reduceLT, Int.reduceToNat, Int.reduceAdd, Int.reduceSub, Int.reduceMul, Int.reduceEq, FE, p1, p2, p9, p12, p13, p14, p64, hjs, hab2, u2, Nat.mul_one, hj63]
    refine call_of (b4 _) ?_
    simp only [↓R1, R2, R3, R4, TY, reduceIte, Nat.reduceEqDiff, Nat.reduceAdd, Nat.reduceMul, Nat.reduceLT, Nat.reduceLeDiff, reduceCtorEq, decide_true, decide_false, Int.reduceLE, Int.reduceLT, Int.reduceToNat, Int.reduceAdd, Int.reduceSub, Int.reduceMul, Int.reduceEq, FE, p1, p2, p9, p12, p13, p14, p64, hjs, hab2, u2, Nat.mul_one, hj63]
    refine call_of (csh _) ?_
    have w7 : IntKind.i64.wrap (7 + (j : Int)) = 7 + (j : Int) := wrapI (by omega)
    simp only [↓R1, R2, R3, R4, TY, reduceIte, Nat.reduceEqDiff, Nat.reduceAdd, Nat.reduceMul, Nat.reduceLT, Nat.reduceLeDiff, reduceCtorEq, decide_true, decide_false, Int.reduceLE, Int.reduceLT, Int.reduceToNat, Int.reduceAdd, Int.reduceSub, Int.reduceMul, Int.reduceEq, FE, p1, p2, p9, p12, p13, p14, p64, hz6, hfl3, w7]
    have hdif : dif (IntKind.u32.wrap (7 + (j : Int))) (IntKind.u32.wrap (7 + ((j : Int) - (lo : Nat)))) = (lo : Nat) := by
      rw [dif_small rfl rfl (by omega) (by omega)]; omega
    have cdf := fun fl B => diff_ok (G := G) (fl := fl) (A := B) (IntKind.u32.wrap (7 + (j : Int))) (IntKind.u32.wrap (7 + ((j : Int) - (lo : Nat))))
    rw [hdif] at cdf
    obtain ⟨m, hm⟩ : ∃ m : Mg, m = ⟨bi, (j : Int), IntKind.u32.wrap (7 + ((j : Int) - (lo : Nat)))⟩ := ⟨_, rfl⟩
    generalize hH4 : Hp.put _ H3.next _ = H4
    have hH4d : (H3.push (.row z6 0 6)).put H3.next (.row (mC m) 0 6) = H4 := by rw [← hH4, hm]; rfl
    have h4n : H4.next = H3.next + 1 := by rw [← hH4d]; rfl
    have h4b : ∀ id, id < H3.next → H4.blk id = H3.blk id := fun id hid => by rw [← hH4d, Hp.put_blk, if_neg (by omega), Hp.push_blk, if_neg (by omega)]
    have h4m : ∀ i, H4.get G ⟨H3.next, i, some 0⟩ = (mC m)[i]? := fun i => by rw [← hH4d]; simp [Hp.get, Hp.put_blk]
    have hI4 := hI3.up hEn (by omega) h4b
    clear hH4 hH4d
    refine call_of (cdf _ _) ?_
    simp only [↓R1, R2, R3, R4, TY, reduceIte, Nat.reduceEqDiff, Nat.reduceAdd, Nat.reduceMul, Nat.reduceLT, Nat.reduceLeDiff, reduceCtorEq, decide_true, decide_false, Int.reduceLE, Int.reduceLT, Int.reduceToNat, Int.reduceAdd, Int.reduceSub, Int.reduceMul, Int.reduceEq, FE, p1, p2, p9, p12, p13, p14, p64]
    refine ⟨fun hbad => ?_, fun hgood => ?_⟩
    · simp only [↓R1, R2, R3, R4, TY, reduceIte, Nat.reduceEqDiff, Nat.reduceAdd, Nat.reduceMul, Nat.reduceLT, Nat.reduceLeDiff, reduceCtorEq, decide_true, decide_false, Int.reduceLE, Int.reduceLT, Int.reduceToNat, Int.reduceAdd, Int.reduceSub, Int.reduceMul, Int.reduceEq, FE, hj63, p64]
      exact range_on k64 (by omega) rfl ⟨sg', gl3, none, cnt, hI4.later (by omega) (by omega), by simp [pnL, hlen3], by omega, p1, p2, p9, p12, p13, rfl, rfl⟩
    obtain ⟨el, ck, m1, m2, m3⟩ := hI4.mp
    have hck : ckK Try.prog 20 3 (.int .i64 (j : Int)) = true := ckK_int Try.underlying3 _
    have hmf : mfind Try.prog 3 (.int .i64 (j : Int)) (ents (Value.int .i64) el) 0 = some none := by
      rw [mfind_of (key := Value.int .i64) (fun a b => eqD_int Try.underlying3 a b)]
      cases hr : lfind (j : Int) el 0 with
      | none => rfl
      | some q =>
        obtain ⟨b, -, hg⟩ := lfind_some (v := q.2) (j := q.1) hr
        have := m3 _ (List.mem_of_getElem? hg)
        simp only at this; omega
    have hfM : fl ≤ N + 1 := by omega
    simp only [↓R1, R2, R3, R4, TY, reduceIte, Nat.reduceEqDiff, Nat.reduceAdd, Nat.reduceMul, Nat.reduceLT, Nat.reduceLeDiff, reduceCtorEq, decide_true, decide_false, Int.reduceLE, Int.reduceLT, Int.reduceToNat, Int.reduceAdd, Int.reduceSub, Int.reduceMul, Int.reduceEq, FE, p1, p2, p9, p12, p13, p14, p64, hck, hmf, m1, hfM]
    have hI5 := hI4.put hEn (el := el ++ [((j : Int), Value.int .i64 (j : Int), ck)]) (ck := ck + 1) (by simp [m2]) (fun e he => by
      rcases List.mem_append.1 he with h | h
      · have := m3 e h; omega
      · simp only [List.mem_singleton] at h; rw [h]; simp only; omega)
    rw [← ents_append (key := Value.int .i64)] at hI5
    have h5m : ∀ i, (H4.put (N + 1) (.mp (ents (Value.int .i64) el ++ [(Value.int .i64 (j : Int), Value.int .i64 (j : Int), ck)]) (ck + 1))).get G ⟨H3.next, i, some 0⟩ = (mC m)[i]? := fun i => by
      have := hI3.nx
      rw [← h4m i]
      have hne : H3.next ≠ N + 1 := by omega
      simp [Hp.get, Hp.put_blk, hne]
    have mcd : mC m = [.int .i64 3, .int .i64 bi, .int .i64 4, .int .i64 (j : Int), .int .u32 (IntKind.u32.wrap (7 + ((j : Int) - (lo : Nat)))), .slice none 0 0] := by rw [hm]; rfl
    have r0 := h5m 0
    have r1 := h5m 1
    have r2 := h5m 2
    have r3 := h5m 3
    have r4 := h5m 4
    have r5 := h5m 5
    rw [mcd] at r0 r1 r2 r3 r4 r5
    simp only [List.getElem?_cons_zero, List.getElem?_cons_succ] at r0 r1 r2 r3 r4 r5
    have hgm : Gdm lost m := by
      rw [hm]
      exact ⟨⟨lr4.1, by simp only; omega, by simp only; omega, by simp only; omega⟩, (lo : Nat), by omega, by omega, by simp only; congr 1; omega⟩
    obtain ⟨C, hsnd, hIC⟩ := send_step (G := G) (fl := fl) hI5 hEn hfD (by omega) hgm (by rw [hm])
    rw [mcd] at hsnd
    simp only [↓R1, R2, R3, R4, TY, reduceIte, Nat.reduceEqDiff, Nat.reduceAdd, Nat.reduceMul, Nat.reduceLT, Nat.reduceLeDiff, reduceCtorEq, decide_true, decide_false, Int.reduceLE, Int.reduceLT, Int.reduceToNat, Int.reduceAdd, Int.reduceSub, Int.reduceMul, Int.reduceEq, FE, p1, p2, p9, p12, p13, p14, p64, r0, r1, r2, r3, r4, r5]
    refine call_of hsnd ?_
    simp only [↓R1, R2, R3, R4, TY, reduceIte, Nat.reduceEqDiff, Nat.reduceAdd, Nat.reduceMul, Nat.reduceLT, Nat.reduceLeDiff, reduceCtorEq, decide_true, decide_false, Int.reduceLE, Int.reduceLT, Int.reduceToNat, Int.reduceAdd, Int.reduceSub, Int.reduceMul, Int.reduceEq, FE, p1, p2, p9, p12, p13, p14, p64, hj63]
    exact range_on k64 (by omega) rfl ⟨sg', gl3, some m, cnt + 1, hIC, by simp [pnL, hlen3], by omega, p1, p2, p9, p12, p13, rfl, rfl⟩
  obtain ⟨a, rfl, -⟩ := hs.at (G := G) (i := j) (by simpa [hql] using hlt)
  have hab : a.block < D.next := Nat.lt_of_lt_of_le (hs.lt hA) hx.next
  have hflD : fl ≤ D.next := Nat.le_trans hfl hx.next
  have hjq : j < qs.length := by omega
  have hsD := hs.xt hA hx
  rw [← hql] at hsD
  obtain ⟨u0, u1, u2⟩ := fa_get (G := G) hsD hjq
  have hj63 : j < 9223372036854775807 := by omega
  have k42 := p42
  have htk : qs.take (j + 1) = qs.take j ++ [qs[j]] := by rw [List.take_succ_eq_append_getElem hjq]
  have hz3 : zl [Value.int .i64 0, .int .i64 0, .int .i64 0] 3 = [Value.int .i64 0, .int .i64 0, .int .i64 0] := rfl
  generalize qs[j] = f at *
  have b60 := fun fl D => below_ok (G := G) (fl := fl) (A := D) (x := f.a) (n := 60) (by omega) (by omega)
  have b6 := fun fl D => below_ok (G := G) (fl := fl) (A := D) (x := f.b) (n := 6) (by omega) (by omega)
  have b4 := fun fl D => below_ok (G := G) (fl := fl) (A := D) (x := f.c) (n := 4) (by omega) (by omega)
  simp only [↓R1, R2, R3, R4, TY, reduceIte, Nat.reduceEqDiff, Nat.reduceAdd, Nat.reduceMul, Nat.reduceLT, Nat.reduceLeDiff, reduceCtorEq, decide_true, decide_false, Int.reduceLE, Int.reduceLT, Int.reduceToNat, Int.reduceAdd, Int.reduceSub, Int.reduceMul, Int.reduceEq, FE, p40, p41, p42, p1, p2, p9, hlt, hab, hflD, u0, u1, u2, hj63, hz3]
  refine call_of (b60 _ _) ?_
  simp only [↓R1, R2, R3, R4, TY, reduceIte, Nat.reduceEqDiff, Nat.reduceAdd, Nat.reduceMul, Nat.reduceLT, Nat.reduceLeDiff, reduceCtorEq, decide_true, decide_false, Int.reduceLE, Int.reduceLT, Int.reduceToNat, Int.reduceAdd, Int.reduceSub, Int.reduceMul, Int.reduceEq, FE, p40, p41, p42, p1, p2, p9, hlt, hab, hflD, u0, u1, u2, hj63, hz3]
  refine call_of (b6 _ _) ?_
  simp only [↓R1, R2, R3, R4, TY, reduceIte, Nat.reduceEqDiff, Nat.reduceAdd, Nat.reduceMul, Nat.reduceLT, Nat.reduceLeDiff, reduceCtorEq, decide_true, decide_false, Int.reduceLE, Int.reduceLT, Int.reduceToNat, Int.reduceAdd, Int.reduceSub, Int.reduceMul, Int.reduceEq, FE, p40, p41, p42, p1, p2, p9, hlt, hab, hflD, u0, u1, u2, hj63, hz3]
  refine call_of (b4 _ _) ?_
  simp only [↓R1, R2, R3, R4, TY, reduceIte, Nat.reduceEqDiff, Nat.reduceAdd, Nat.reduceMul, Nat.reduceLT, Nat.reduceLeDiff, reduceCtorEq, decide_true, decide_false, Int.reduceLE, Int.reduceLT, Int.reduceToNat, Int.reduceAdd, Int.reduceSub, Int.reduceMul, Int.reduceEq, FE, p40, p41, p42, p1, p2, p9, hlt, hab, hflD, u0, u1, u2, hj63, hz3]
  rw [floOf_wr (by kernel_rfl)]
  generalize hE : Hp.put _ D.next _ = E
  have hxE : Xt D.next D E := by rw [← hE]; exact ((Xt.refl D).push _).put (Nat.le_refl _) _
  have hxBE : Xt B.next B E := hx.trans hxE
  have hacE := hac.xt hxE
  have hEn : D.next + 1 = E.next := by rw [← hE]; rfl
  clear hE
  rw [hEn]
  refine app1 (lo := B.next) (sz := 3) (cl := fC (red f)) ty22 rfl ty30 rfl (by omega) rfl hacE hfl (by have := hxBE.next; omega) rfl (by simp [fC, Value.oneCell']) (by simp; omega) (by simp; omega) ?_
  intro sb' E2 hac' hxD hnD hfD hidD
  simp only [↓R1, R2, R3, R4, TY, reduceIte, Nat.reduceEqDiff, Nat.reduceAdd, Nat.reduceMul, Nat.reduceLT, Nat.reduceLeDiff, reduceCtorEq, decide_true, decide_false, Int.reduceLE, Int.reduceLT, Int.reduceToNat, Int.reduceAdd, Int.reduceSub, Int.reduceMul, Int.reduceEq, FE, p40, p41, p42, p1, p2, p9, hj63]
  refine range_on k42 hlt rfl ⟨sb', ?_, ?_, p1, p2, rfl, p40, p41, rfl⟩
  · exact ⟨fun id hid => (hxD.blk id hid).trans (hxBE.blk id hid), by have := hxBE.next; omega⟩
  · rw [htk, List.map_append, List.map_append]; exact hac'
end
end Go.Proofs.Ytiiapkhdjchhjaa.Ab
