/- Part B7 of the proof. -/
import Derived.Test.YtgdgkmackccopaaGreatDoorB6
import Derived.Test.YtgdgkmackccopaaGreatDoorA7
set_option linter.all false
namespace Go.Lift.K
open Go Go.Lift
set_option maxRecDepth 100000
def y4j (s0 : List (Nat × Obj)) (n0 : Nat) (a b : TreeT) (v : V) (st : St) : Prop :=
 n0 ≤ st.next ∧ (∀ q, q < n0 → sget st.s q = sget s0 q) ∧
  ((z0o z0b [a, b] = 0 ∧ ∃ kd, v = .tup [.ptr kd 0, .d (.int .i64 0)] ∧ n0 ≤ kd ∧ kd < st.next ∧ sget st.s kd = some (.cells (z8v a b))) ∨ (z0o z0b [a, b] ≠ 0 ∧ v = .tup [.nilP, .d (.int .i64 (z0o z0b [a, b]))]))
theorem zoy {a b : TreeT} (ha : a.ok) (hb : b.ok) {s : List (Nat × Obj)} {n0 lw : Nat} : PostV (z06 G (.fn 39 [] []) [.d a.d, .d b.d] { s := s, next := n0, low := lw }) (y4j s n0 a b) := by
 have hC : ∀ s nx lw k, sget s k = some (.cells [.d (.sl (a.nodes.map NodeT.d)), .d (.int .i64 a.root), .d (.sl (b.nodes.map NodeT.d)), .d (.int .i64 b.root)]) → z06 G (.fn 60 [] []) [.arr k 2 true 0 2] { s := s, next := nx, low := lw } = some (.d (.int .i64 (z0o z0b [a, b])), { s := s, next := nx, low := lw }) := fun s nx lw k h => by
  have := zck (l := [a, b]) (by simp [LOk]) (fun x hx => by simp at hx; rcases hx with rfl | rfl <;> assumption) { s := [], next := 0, low := 0 }
  exact z4o (ds := [.sl ([a, b].map TreeT.d)]) (rs := [.int .i64 (z0o z0b [a, b])]) T1.g60 rfl rfl (by have := zbq (l := [a, b]) (s := s) (k := k) (by rw [h]; rfl); simp only [List.length_cons, List.length_nil, Nat.zero_add] at this; simp [z0p, this]) rfl this
 have hbx : ∀ k st, boxV k (mkAgg [.d (.sl (a.nodes.map NodeT.d)), .d (.int .i64 a.root), .d (.sl (b.nodes.map NodeT.d)), .d (.int .i64 b.root), .fn 61 [] []]) st = some (.ptr k 0, St.ins st k (.cells (z8v a b))) := fun k st => by
  simp only [boxV, z7u]; rfl
 refine z1k (first := []) (args := [.d a.d, .d b.d]) (cap := []) T1.g39 rfl rfl rfl (fun e w_len harg => ?_)
 have w_len : e.length = 19 := w_len
 have w_0 : e.getD 0 .undef = .d a.d := harg 0 (by simp)
 have w_1 : e.getD 1 .undef = .d b.d := harg 1 (by simp)
 clear harg
 by_cases h0 : z0o z0b [a, b] = 0
 ·simp only [T1.i39, TreeT.d, hC, hbx, h0, w_len, w_0, w_1, ↓LA, LB, simprocAttr]
  exact ⟨by show n0 ≤ n0 + 18; omega, (by intro q hq; simp (disch := omega) only [z00]), .inl ⟨h0, _, rfl, by omega, by show n0 + 15 < n0 + 18; omega, z02⟩⟩
 ·simp only [T1.i39, TreeT.d, hC, h0, w_len, w_0, w_1, ↓LA, LB, simprocAttr]
  exact ⟨Nat.le_add_right _ _, (by intro q hq; simp (disch := omega) only [z00]), .inr ⟨h0, rfl⟩⟩
end Go.Lift.K
namespace Go.Lift.K
open Go Go.Lift
set_option maxRecDepth 100000
def PL (s : List (Nat × Obj)) (lo hi : Nat) (v : V) (l : List D) : Prop := (v = .nilS ∧ l = []) ∨ ∃ k, v = .arr k 1 false 0 l.length ∧ lo ≤ k ∧ k < hi ∧ sget s k = some (.cells (scs l))
theorem PL.frame {s s' : List (Nat × Obj)} {lo hi lo' hi' : Nat} {v : V} {l : List D} (h : PL s lo hi v l) (hs : ∀ k, lo ≤ k → k < hi → sget s' k = sget s k) (h1 : lo' ≤ lo) (h2 : hi ≤ hi') : PL s' lo' hi' v l := by
 refine h.imp id ?_
 rintro ⟨k, e, a, b, g⟩
 exact ⟨k, e, by omega, by omega, by rw [hs k a b]; exact g⟩
theorem PL.app {s : List (Nat × Obj)} {lo hi : Nat} {v : V} {l : List D} (h : PL s lo hi v l) {x : D} (ha : l.all D.sc = true) (hl : l.length ≤ 1000000) {k1 key nx lw : Nat} (hx : x.sc = true) (h1 : sget s k1 = some (.cells [.d x])) :
  ∃ s' lw', z12 { s := s, next := nx, low := lw } key 1 false 8 v (.arr k1 1 false 0 1) = some (.arr key 1 false 0 (l.length + 1), { s := (key, .cells (scs (l ++ [x]))) :: s', next := nx, low := lw' }) ∧ (∀ q, (q < lo ∨ hi ≤ q) → sget s' q = sget s q) ∧ Nat.min lw lo ≤ lw' := by
 obtain ⟨rfl, rfl⟩ | ⟨k, rfl, hk, hk2, hg⟩ := h
 ·refine ⟨s, lw, ?_, fun _ _ => rfl, Nat.min_le_left _ _⟩
  exact ziu (es := [x]) h1 (by simp [hx]) (by simp) rfl (by simp) (by simp)
 ·refine ⟨sdel s k, Nat.min lw k, ?_, fun q hq => z0y (by omega), by simp only [Nat.min_def]; split <;> split <;> omega⟩
  exact zo2 (es := [x]) hg h1 ha (by simp [hx]) rfl rfl (by simp; omega) (by simp; omega)
theorem zrp {l : List D} (ha : l.all D.sc = true) (hl : l.length ≤ 1000000) {v : V} {s : List (Nat × Obj)} {nx lw lo : Nat} (hv : PL s lo nx v l) :
  PostV (z06 G (.fn 89 [] []) [v] { s := s, next := nx, low := lw }) (fun r st => nx ≤ st.next ∧ (∀ q, q < nx → sget st.s q = sget s q) ∧ PL st.s nx st.next r l ∧ ∀ m, m ≤ lw → m ≤ nx → m ≤ st.low) := by
 obtain ⟨rfl, rfl⟩ | ⟨k, rfl, hk, hk2, hg⟩ := hv
 ·refine ziq (args := [.nilS]) T1.g89 rfl rfl rfl (fun e w_len harg => ?_)
  have w_len : e.length = 8 := w_len
  have w_0 : e.getD 0 .undef = .nilS := harg 0 (by simp)
  clear harg
  simp only [T1.i89, w_len, w_0, ↓LA, LB, simprocAttr]
  exact ⟨Nat.le_add_right _ _, (by intro q hq; trivial), .inl ⟨rfl, rfl⟩, fun m h1 h2 => z01 h1 (by show m ≤ nx; omega)⟩
 ·have hA : ∀ z nx' lw', sget z k = some (.cells (scs l)) → sget z (nx + 3) = some (.cells []) → z12 { s := z, next := nx', low := lw' } (nx + 5) 1 false 8 (.arr (nx + 3) 1 false 0 0) (.arr k 1 false 0 l.length) = _ := fun z nx' lw' h h0 => zth ha hl (.inr ⟨k, rfl, h⟩) h0
  have hne : (nx + 3 = k) = False := by simp; omega
  refine ziq (args := [.arr k 1 false 0 l.length]) T1.g89 rfl rfl rfl (fun e w_len harg => ?_)
  have w_len : e.length = 8 := w_len
  have w_0 : e.getD 0 .undef = .arr k 1 false 0 l.length := harg 0 (by simp)
  clear harg
  simp only [T1.i89, hA, hne, hg, w_len, w_0, ↓LA, LB, simprocAttr]
  exact ⟨Nat.le_add_right _ _, (by intro q hq; simp (disch := omega) only [z0y (show nx + 3 ≠ q by omega), if_neg]), .inr ⟨_, rfl, by omega, by show nx + 5 < nx + _; omega, z02⟩, fun m h1 h2 => by repeat' (first | omega | refine z01 ?_ ?_)⟩
end Go.Lift.K
namespace Go.Lift.K
open Go Go.Lift
set_option maxRecDepth 100000
theorem zn1 {k : Nat} {args : List V} {st : St} {env env1 : List V} {ps : List Nat} {asg body : IC} {R : V → St → Prop} {A : List V → St → Prop}
  (h0 : sget st.s k = some (.loop env ps asg body .ready none)) (h1 : z9u env ps args = some env1)
  (h : PC (z0i (z06 T1.G) z0h (some k) asg env1 st) (fun x env2 st2 => x = .nrm ∧ A env2 st2) .mk)
  (h2 : ∀ env2 st2, A env2 st2 → sget st2.s k = some (.loop env ps asg body .ready none) ∧ PC (z0i (z06 T1.G) z0h (some k) body env2 (st2.set k (.loop env ps asg body .busy none))) (fun x _ st3 => zxp k R x st3) .mk) :
  PostV (z06 T1.G (.yld k) args st) R := by
 refine y0n h0 h1 ?_
 obtain ⟨x, env2, st2, hx, rfl, hA⟩ := h
 obtain ⟨g1, g2⟩ := h2 _ _ hA
 exact ⟨_, _, _, hx, rfl, _, _, _, g1, g2⟩
theorem zlc {a b : TreeT} (ha : a.ok) (hb : b.ok) {kd : Nat} {s : List (Nat × Obj)} {nx lw : Nat} (hkd : kd < nx) (hk : sget s kd = some (.cells (z8v a b))) {p : Nat × Nat} (h1 : p.1 < a.nodes.length) (h2 : p.2 < b.nodes.length) :
  z06 T1.G (.fn 62 [.ptr kd 0] []) [.d (prD p)] { s := s, next := nx, low := lw } = some (.d (.bool (difS a.nodes[p.1] b.nodes[p.2])), { s := s, next := nx, low := lw }) := by
 have h := zes ha hb hkd hk h1 h2 (lw := lw) (nx := nx)
 rw [z1l] at h ⊢; simp only [z13] at h ⊢
 exact h
def yAsg : IC := (sq 2 [oo 6 (.alloc 0 [(.d (.int .i64 0)), (.d (.int .i64 0))]), os (ks 2 6 12)]
 (.reg 1 [om 7 13]))
def zl7 : IC := (.block 1 (sq 3 [oo 14 (kl 1 5), oo 15 (kL 2 6), oo 16 (.call (.o (.t 14)) [.t 15])]
 (.cond (.t 16) (sq 5 [om 17 7, oo 18 (kL 2 6), ⟨none, ks 1 2 17, none, [6]⟩, os (ks 2 3 18), os (.store 1 (.t 4) ct)]
 (.exit 0))
 .skip)))
structure Ye (na kd : Nat) (env : List V) : Prop where
 len : env.length = 22
 a2 : env.getD 2 .undef = .ptr na 0
 a3 : env.getD 3 .undef = .ptr (na + 1) 0
 a4 : env.getD 4 .undef = .ptr (na + 2) 0
 a5 : env.getD 5 .undef = .ptr (na + 5) 0
structure Ys (a b : TreeT) (na kd k : Nat) (env : List V) (s : List (Nat × Obj)) : Prop where
 lp : sget s k = some (.loop env [12, 13] yAsg zl7 .ready none)
 dk : sget s kd = some (.cells (z8v a b))
 un : sget s (na + 5) = some (.cells [.fn 62 [.ptr kd 0] []])
 p0 : sget s na = some (.cells [.nilS])
 p1 : sget s (na + 1) = some (.cells [.d (.int .i64 0), .d (.int .i64 0)])
 p2 : sget s (na + 2) = some (.cells [.d (.bool false)])
theorem Ys.frame {a b : TreeT} {na kd k : Nat} {env : List V} {s s' : List (Nat × Obj)} (h : Ys a b na kd k env s) (hs : ∀ q, q ≤ k → sget s' q = sget s q) (h1 : na + 5 < k) (h2 : kd < na) : Ys a b na kd k env s' := ⟨(hs _ (by omega)).trans h.lp, (hs _ (by omega)).trans h.dk, (hs _ (by omega)).trans h.un, (hs _ (by omega)).trans h.p0, (hs _ (by omega)).trans h.p1, (hs _ (by omega)).trans h.p2⟩
structure Yf (na k : Nat) (env : List V) (x : Nat × Nat) (v : V) (s : List (Nat × Obj)) : Prop where
 lp : sget s k = some (.loop env [12, 13] yAsg zl7 .done (some (.brk 0)))
 p0 : sget s na = some (.cells [v])
 p1 : sget s (na + 1) = some (.cells [.d (.int .i64 (x.1 : Nat)), .d (.int .i64 (x.2 : Nat))])
 p2 : sget s (na + 2) = some (.cells [.d (.bool true)])
def YR (a b : TreeT) (na k : Nat) (env : List V) (s : List (Nat × Obj)) (nx : Nat) (p : Nat × Nat) (d : Bool) (v : V) (r : V) (st : St) : Prop :=
 nx ≤ st.next ∧ na ≤ st.low ∧ ((d = false ∧ r = .d (.bool true) ∧ ∀ q, q < nx → sget st.s q = sget s q) ∨
  (d = true ∧ r = .d (.bool false) ∧ Yf na k env p v st.s ∧ ∀ q, q < nx → q ≠ k → (q < na ∨ na + 3 ≤ q) → sget st.s q = sget s q))
set_option maxHeartbeats 1000000 in
theorem zsn {a b : TreeT} (ha : a.ok) (hb : b.ok) {na kd k : Nat} {env : List V} {s : List (Nat × Obj)} {nx lw : Nat} (he : Ye na kd env) (hs : Ys a b na kd k env s) (hk : k < nx) (hna : na + 5 < k) (hkd : kd < na) (hlw : na ≤ lw)
  {p : Nat × Nat} (h1 : p.1 < a.nodes.length) (h2 : p.2 < b.nodes.length) {v : V} (hv : v.isCell = true ∧ cellsV v = [v]) :
  PostV (z06 T1.G (.yld k) [.d (prD p), v] { s := s, next := nx, low := lw }) (YR a b na k env s nx p (difS a.nodes[p.1] b.nodes[p.2]) v) := by
 obtain ⟨w_len, w_2, w_3, w_4, w_5⟩ := he
 obtain ⟨w_lp, w_dk, w_un, w_p0, w_p1, w_p2⟩ := hs
 obtain ⟨hv1, hv2⟩ := hv
 refine zn1 (A := fun env2 st2 => ∃ nx' lw', st2 = { s := (nx, .cells [.d (.int .i64 (p.1 : Nat)), .d (.int .i64 (p.2 : Nat))]) :: s, next := nx', low := lw' } ∧ nx + 2 ≤ nx' ∧ na ≤ lw' ∧ env2.length = 22 ∧ env2.getD 2 .undef = .ptr na 0 ∧ env2.getD 3 .undef = .ptr (na + 1) 0 ∧ env2.getD 4 .undef = .ptr (na + 2) 0 ∧ env2.getD 5 .undef = .ptr (na + 5) 0 ∧ env2.getD 6 .undef = .ptr nx 0 ∧ env2.getD 7 .undef = v) w_lp rfl ?_ ?_
 ·have w_x0 := hna
  simp only [yAsg, prD, w_len, w_2, w_3, w_4, w_5, ↓LA, LB, simprocAttr]
  exact ⟨_, _, rfl, by show nx + 2 ≤ nx + 3; omega, by repeat' (first | omega | refine z01 ?_ ?_)⟩
 ·rintro env2 st2 ⟨nx', lw', rfl, hn, hln, w_len, w_2, w_3, w_4, w_5, w_6, w_7⟩
  refine ⟨by rw [z00 (by omega)]; exact w_lp, ?_⟩
  have w_n0 : (nx = k) = False ∧ (k = nx) = False ∧ (k = na) = False ∧ (k = na + 1) = False ∧ (k = na + 2) = False ∧ (k = na + 5) = False ∧ (k = kd) = False ∧ (nx = na) = False ∧ (nx = na + 1) = False ∧ (nx = na + 2) = False ∧ (nx = na + 5) = False ∧ (nx = kd) = False := by simp; omega
  have hU : ∀ z nx1 lw1, sget z kd = some (.cells (z8v a b)) → kd < nx1 → z06 T1.G (.fn 62 [.ptr kd 0] []) [.d (.agg [.int .i64 (p.1 : Nat), .int .i64 (p.2 : Nat)])] { s := z, next := nx1, low := lw1 } = some (.d (.bool (difS a.nodes[p.1] b.nodes[p.2])), { s := z, next := nx1, low := lw1 }) := fun z nx1 lw1 hz hn1 => zlc ha hb hn1 hz h1 h2
  generalize hO : Obj.loop env [12, 13] yAsg zl7 .busy none = O
  have w_kk : ∀ o, sget (sset s k o) k = some o := fun o => z04 w_lp
  have w_dk2 : ∀ o, sget (sset s k o) kd = some (.cells (z8v a b)) := fun o => by rw [z0m (by omega)]; exact w_dk
  simp only [zl7, w_len, w_5, w_6, w_n0, w_un, ↓LA, LB, simprocAttr]
  rw [hU _ _ _ (by rw [z00 (by omega)]; exact w_dk2 _) (by omega)]
  cases hd : difS a.nodes[p.1] b.nodes[p.2] with
  | true =>
   simp only [hv1, hv2, w_len, w_2, w_3, w_4, w_6, w_7, w_n0, w_p0, w_p1, w_p2, ↓LA, LB, simprocAttr]
   obtain ⟨X, hX⟩ : ∃ X, X = (nx, Obj.cells [V.d (D.int IntKind.i64 (p.fst : Nat)), V.d (D.int IntKind.i64 (p.snd : Nat))]) :: sset (sset (sset (sset s k O) na (Obj.cells [v])) (na + 1) (Obj.cells [V.d (D.int IntKind.i64 (p.fst : Nat)), V.d (D.int IntKind.i64 (p.snd : Nat))])) (na + 2) (Obj.cells [V.d (D.bool true)]) := ⟨_, rfl⟩
   rw [← hX]
   have x0 : ∀ q, q < nx → q ≠ k → (q < na ∨ na + 3 ≤ q) → sget X q = sget s q := fun q g1 g2 g3 => by rw [hX]; simp (disch := omega) only [z00, z03]
   have x1 : sget X k = some O := by rw [hX]; simp (disch := omega) only [z00, z03]; exact w_kk O
   have x2 : sget X na = some (.cells [v]) := by
    rw [hX]; simp (disch := omega) only [z00, z03]
    exact z04 (by simp (disch := omega) only [z03]; exact w_p0)
   have x3 : sget X (na + 1) = some (.cells [.d (.int .i64 (p.1 : Nat)), .d (.int .i64 (p.2 : Nat))]) := by
    rw [hX]; simp (disch := omega) only [z00, z03]
    exact z04 (by simp (disch := omega) only [z03]; exact w_p1)
   have x4 : sget X (na + 2) = some (.cells [.d (.bool true)]) := by
    rw [hX]; simp (disch := omega) only [z00]
    exact z04 (by simp (disch := omega) only [z03]; exact w_p2)
   refine ⟨env, [12, 13], yAsg, zl7, by rw [hO]; exact x1, by show nx ≤ nx' + 8; omega, (by show na ≤ Nat.min _ _; repeat' (first | omega | refine z01 ?_ ?_)), .inr ⟨rfl, rfl, ⟨z04 x1, ?_, ?_, ?_⟩, fun q g1 g2 g3 => ?_⟩⟩
   ·exact (z0m (by omega)).trans x2
   ·exact (z0m (by omega)).trans x3
   ·exact (z0m (by omega)).trans x4
   ·exact (z0m (by omega)).trans (x0 q g1 g2 g3)
  | false =>
   simp only [w_len, ↓LA, LB, simprocAttr]
   obtain ⟨X, hX⟩ : ∃ X, X = (nx, Obj.cells [V.d (D.int IntKind.i64 (p.fst : Nat)), V.d (D.int IntKind.i64 (p.snd : Nat))]) :: sset s k O := ⟨_, rfl⟩
   rw [← hX]
   have x0 : ∀ q, q < nx → q ≠ k → sget X q = sget s q := fun q g1 g2 => by rw [hX]; simp (disch := omega) only [z00, z03]
   have x1 : sget X k = some O := by rw [hX]; simp (disch := omega) only [z00]; exact w_kk O
   refine ⟨env, [12, 13], yAsg, zl7, by rw [hO]; exact x1, by show nx ≤ nx' + 3; omega, (by show na ≤ Nat.min _ _; repeat' (first | omega | refine z01 ?_ ?_)), .inl ⟨rfl, rfl, fun q g1 => ?_⟩⟩
   by_cases e : q = k
   ·subst e; exact (z04 x1).trans w_lp.symm
   ·exact (z0m (by omega)).trans (x0 q g1 e)
end Go.Lift.K
namespace Go.Lift.K
open Go Go.Lift
set_option maxRecDepth 100000
def qc (w : List ((Nat × Nat) × V)) : List V := w.flatMap fun x => [.d (.int .i64 (x.1.1 : Nat)), .d (.int .i64 (x.1.2 : Nat)), x.2]
theorem zy9 {x : (Nat × Nat) × V} {w : List ((Nat × Nat) × V)} : qc (x :: w) = .d (.int .i64 (x.1.1 : Nat)) :: .d (.int .i64 (x.1.2 : Nat)) :: x.2 :: qc w := rfl
theorem zy8 {x : (Nat × Nat) × V} {w : List ((Nat × Nat) × V)} : qc (w ++ [x]) = qc w ++ [.d (.int .i64 (x.1.1 : Nat)), .d (.int .i64 (x.1.2 : Nat)), x.2] := by simp [qc]
def Mq (es : List (D × V)) (o : List (Nat × Nat)) : Prop := ∀ p, z1s es (prD p) = if p ∈ o then some (.d (.bool true)) else none
theorem zye {p q : Nat × Nat} : D.beq (prD p) (prD q) = decide (p = q) := by
 simp only [prD, D.beq, D.beqL, Bool.and_true, decide_true, Bool.true_and]
 rw [Bool.eq_iff_iff, Bool.and_eq_true, decide_eq_true_eq, decide_eq_true_eq, decide_eq_true_eq, Prod.ext_iff]
 omega
theorem zwm {es : List (D × V)} {o : List (Nat × Nat)} {p : Nat × Nat} (h : Mq es o) : Mq (z22 es (prD p) (.d (.bool true))) (o ++ [p]) := fun q => by
 rw [z4n, zye, h q]
 by_cases e : p = q
 ·simp [e]
 ·have e' : ¬ q = p := fun k => e k.symm
  simp [e, e']
theorem zoj {p : Nat × Nat} (h1 : p.1 ≤ 1000000) (h2 : p.2 ≤ 1000000) : z2g true [.i .i64, .i .i64] (.agg [.int .i64 (p.1 : Nat), .int .i64 (p.2 : Nat)]) = true := by
 have e1 : IntKind.i64.min = -9223372036854775808 := by decide
 have e2 : IntKind.i64.max = 9223372036854775807 := by decide
 simp [z2g, conf, z7q, e1, e2]
 omega
theorem sl_1 {base : Nat} {env : List V} {st : St} {kq off n : Nat} {cs : List V} (h : evO env (.t 35) = .arr kq 3 true off (n + 1)) (hc : sget st.s kq = some (.cells cs)) (hl : off + (n + 1) * 3 ≤ cs.length) :
  evalOp base env st (.sliceL 3 (.t 35) (some (ci 1)) none) = some (.arr kq 3 true (off + 3) n, st) := by
 have hc' : st.cells? kq = some cs := by simp [St.cells?, scells, hc]
 simp only [evalOp]
 rw [h]
 have hb : z3d (Option.map (evO env) (some (ci 1))) (Option.map (evO env) none) (n + 1) (if 3 = 0 then n + 1 else (cs.length - off) / 3) = some (1, n + 1) := by
  simp only [Option.map_some, Option.map_none, z3d, asI, evO]
  rw [if_pos ⟨by omega, by omega⟩]
  rfl
 simp only [hc', hb]
 rw [if_pos (aI trivial hl)]
 rfl
theorem PL.pv {s : List (Nat × Obj)} {lo hi : Nat} {v : V} {l : List D} (h : PL s lo hi v l) {x : D} (ha : l.all D.sc = true) (hl : l.length ≤ 1000000) {k1 key nx lw : Nat} (hx : x.sc = true) (h1 : sget s k1 = some (.cells [.d x])) {K : V → St → Prop} {kk : Dm K}
  (hK : ∀ s' lw', (∀ q, (q < lo ∨ hi ≤ q) → sget s' q = sget s q) → (∀ m, m ≤ lw → m ≤ lo → m ≤ lw') → K (.arr key 1 false 0 (l.length + 1)) { s := (key, .cells (scs (l ++ [x]))) :: s', next := nx, low := lw' }) : PV (z12 { s := s, next := nx, low := lw } key 1 false 8 v (.arr k1 1 false 0 1)) K kk := by
 obtain ⟨s', lw', h2, h3, h4⟩ := h.app ha hl (nx := nx) (lw := lw) (key := key) hx h1
 rw [h2, pv_some]
 exact hK _ _ h3 fun m g1 g2 => Nat.le_trans (z01 g1 g2) h4
def PQ (s : List (Nat × Obj)) (n0 kq km nx n : Nat) (v : V) : Prop := ∃ l : List D, l.all D.sc = true ∧ l.length ≤ n ∧ ((v = .nilS ∧ l = []) ∨ ∃ k, v = .arr k 1 false 0 l.length ∧ n0 ≤ k ∧ k < nx ∧ k ≠ kq ∧ k ≠ km ∧ sget s k = some (.cells (scs l)))
theorem PQ.cell {s : List (Nat × Obj)} {n0 kq km nx n : Nat} {v : V} (h : PQ s n0 kq km nx n v) : v.isCell = true ∧ cellsV v = [v] ∧ V.beq v v = true := by
 obtain ⟨l, _, _, ⟨rfl, _⟩ | ⟨k, rfl, _⟩⟩ := h
 ·exact ⟨rfl, rfl, z4y⟩
 ·exact ⟨rfl, rfl, z43⟩
theorem PQ.frame {s s' : List (Nat × Obj)} {n0 kq km nx n kq' nx' n' : Nat} {v : V} (h : PQ s n0 kq km nx n v) (hs : ∀ k, n0 ≤ k → k < nx → k ≠ kq → k ≠ km → sget s' k = sget s k) (h1 : kq' = kq ∨ nx ≤ kq') (h3 : nx ≤ nx') (h4 : n ≤ n') : PQ s' n0 kq' km nx' n' v := by
 obtain ⟨l, a, b, h⟩ := h
 refine ⟨l, a, by omega, h.imp id ?_⟩
 rintro ⟨k, e, g0, g1, g2, g3, g⟩
 exact ⟨k, e, g0, by omega, by omega, g3, by rw [hs k g0 g1 g2 g3]; exact g⟩
theorem zmo {l : List (Nat × Nat)} : opLen false (z8s l) = some l.length := by
 unfold z8s
 split
 ·rename_i h; subst h; rfl
 ·rw [zjl, List.length_map]
theorem zs7 {l : List (Nat × Nat)} {j : Nat} (h : j < l.length) : z0a 2 (z8s l) (j : Int) = some (.dptr [.int .i64 (l[j].1 : Nat), .int .i64 (l[j].2 : Nat)]) := by
 unfold z8s
 rw [if_neg (by intro e; subst e; simp at h)]
 exact zum h
theorem zz8 {a b : List NodeT} {p : Nat × Nat} {n j : Nat} (h : j < (kidp a b p n).length) : (kidp a b p n)[j] = (kid a p.1 j, kid b p.2 j) := by simp [kidp]
def y3h (a b : TreeT) (na kd k : Nat) (E : List V) (x y : Nat) (n0 : Nat) (_ : V) (st : St) : Prop :=
 n0 ≤ st.next ∧ na ≤ st.low ∧ ((bis a.nodes b.nodes x y ∧ Ys a b na kd k E st.s) ∨ (¬ bis a.nodes b.nodes x y ∧ ∃ p v, v.isCell = true ∧ cellsV v = [v] ∧ Yf na k E p v st.s))
set_option maxHeartbeats 1000000 in
theorem zot {a b : TreeT} (ga : Gd a.nodes) (gb : Gd b.nodes) (ha : a.ok) (hb : b.ok) {x y : Nat} (hax : a.root = x) (hby : b.root = y) (hx : x < a.nodes.length) (hy : y < b.nodes.length)
  {na kd kz k : Nat} {E : List V} {s : List (Nat × Obj)} {n0 lw : Nat} (he : Ye na kd E) (hs : Ys a b na kd k E s) (hk : k < n0) (hna : na + 5 < k) (hkd : kd < na) (hlw : na ≤ lw) (hc : sget s kz = some (.cells [.ptr kd 0])) (hck : na + 5 < kz ∧ kz < k) :
  PostV (z06 T1.G (.fn 87 [] [.ptr kz 0]) [.yld k] { s := s, next := n0, low := lw }) (y3h a b na kd k E x y n0) := by
 have hal := ga.len
 have hbl := gb.len
 have hmul : a.nodes.length * b.nodes.length ≤ 3600 := Nat.mul_le_mul hal hbl
 have w_dk : sget s kd = some (.cells [.d (.sl (a.nodes.map NodeT.d)), .d (.int .i64 (x : Nat)), .d (.sl (b.nodes.map NodeT.d)), .d (.int .i64 (y : Nat)), .fn 61 [] []]) := by rw [hs.dk, z8v, hax, hby]
 have w_kz := hc
 have w_n0 : (n0 = kz) = False ∧ (n0 = kd) = False ∧ (∀ q, (n0 + q = kz) = False) ∧ (∀ q, (n0 + q = kd) = False) := ⟨by simp; omega, by simp; omega, fun q => by simp; omega, fun q => by simp; omega⟩
 have hcf := zoj (p := (x, y)) (by show x ≤ _; omega) (by show y ≤ _; omega)
 have hU := fun (z : List (Nat × Obj)) (nx lw : Nat) (zz : V) (h : sget z (n0 + 16) = some (.map 114 [])) => z4m (nx := nx) (lw := lw) (x := zz) hcf h
 refine z1k (first := []) (args := [.yld k]) (cap := [.ptr kz 0]) T1.g87 rfl rfl rfl (fun e w_len harg => ?_)
 have w_len : e.length = 76 := w_len
 have w_0 : e.getD 0 .undef = .yld k := harg 0 (by simp)
 have w_1 : e.getD 1 .undef = .ptr kz 0 := harg 1 (by simp)
 clear harg
 simp only [T1.i87, hU, w_len, w_1, w_dk, w_kz, ↓LA, LB, simprocAttr]
 have hs2 : ∀ z, Ys a b na kd k E ((n0 + 16, Obj.map 114 (z22 [] (D.agg [D.int .i64 (x : Nat), D.int .i64 (y : Nat)]) (.d (.bool true)))) :: (n0 + 14, Obj.cells z) :: s) := fun z => hs.frame (fun q hq => by rw [z00 (by omega), z00 (by omega)]) hna hkd
 refine z0e (fun e0 s0 m env st => ∃ (i nxi lwi : Nat) (si : List (Nat × Obj)) (kq km off : Nat) (o : List (Nat × Nat)) (w : List ((Nat × Nat) × V)) (cs : List V) (es : List (D × V)), m = 3601 - i ∧ (i ≤ 3601) ∧ (n0 ≤ kq ∧ kq < nxi ∧ n0 ≤ km ∧ km < nxi ∧ kq ≠ km) ∧ (Ys a b na kd k E si) ∧ (Wi a.nodes b.nodes x y o) ∧ (w.map Prod.fst = o.drop i) ∧ (cs.drop off = qc w) ∧ (off + w.length * 3 = cs.length) ∧ (∀ u ∈ w, PQ si n0 kq km nxi i u.2) ∧ (Mq es o) ∧ (∀ j (h : j < o.length), j < i → Wd a.nodes b.nodes o o[j]) ∧ (i ≤ o.length) ∧ sget si (kz) = some (.cells [.ptr kd 0]) ∧ sget si (kq) = some (.cells cs) ∧ sget si (km) = some (.map 114 es) ∧ n0 + 24 ≤ nxi ∧ na ≤ lwi ∧ env.length = 76 ∧ env.getD 4 .undef = .map km ∧ env.getD 0 .undef = .yld k ∧ env.getD 1 .undef = .ptr kz 0 ∧ env.getD 3 .undef = .arr kq 3 true off w.length ∧ st = { s := si, next := nxi, low := lwi }) ?_ (3601) (by refine ⟨0, _, _, _, n0 + 14, n0 + 16, 0, [(x, y)], [((x, y), .nilS)], [.d (.int .i64 (x : Nat)), .d (.int .i64 (y : Nat)), .nilS], z22 [] (D.agg [D.int .i64 (x : Nat), D.int .i64 (y : Nat)]) (.d (.bool true)), rfl, by omega, by omega, hs2 _, ⟨by simp, by simpa using ⟨hx, hy⟩, by simp, fun h p hp => by rw [List.mem_singleton] at hp; subst hp; exact h⟩, rfl, rfl, rfl, (by intro v hv; rw [List.mem_singleton] at hv; subst hv; exact ⟨[], rfl, Nat.zero_le _, .inl ⟨rfl, rfl⟩⟩), zwm (p := (x, y)) (o := []) (fun p => by simp [z1s]), fun j h h' => by omega, Nat.zero_le _, ?_, ?_, ?_, (by omega), (by first | exact Nat.zero_le _ | omega | exact z01 (by omega) (by omega) | exact z01 (z01 (by omega) (by omega)) (by omega) | exact z01 (z01 (z01 (by omega) (by omega)) (by omega)) (by omega)), ?_, ?_, ?_, ?_, ?_, rfl⟩ <;> simp only [w_len, w_0, w_1, w_kz, w_n0, LB, simprocAttr])
 rintro m env st ⟨i, nxi, lwi, si, kq, km, off, o, w, cs, es, hm, a_0, a_1, a_2, a_3, a_4, a_5, a_6, a_7, a_8, a_9, a_10, w_ac0, w_ac1, w_ac2, w_ab, w_alo, w_len, w_4, w_0, w_1, w_3, rfl⟩
 have w_aN := aI (cf1 (x := nxi) (a := kz) (by omega)) (aI (cf1 (x := nxi) (a := kq) (by omega)) (cf1 (x := nxi) (a := km) (by omega)))
 have w_aS := aI (cf2 (x := nxi) (by omega) w_ac0) (aI (cf2 (x := nxi) (by omega) w_ac1) (cf2 (x := nxi) (by omega) w_ac2))
 have w_aZ := zf (x := nxi) (b := n0) (n := 24) (by omega) (by omega)
 have hol := a_3.len
 cases w with
 | nil =>
  have h0 : ((0 : Int) < ((0 : Nat) : Int)) = False := by simp
  have hoi : o.length ≤ i := List.drop_eq_nil_iff.1 a_4.symm
  simp only [w_len, w_3, ↓LA, LB, simprocAttr]
  exact ⟨by show n0 ≤ nxi + 3; omega, by show na ≤ Nat.min _ _; repeat' (first | omega | refine z01 ?_ ?_), .inl ⟨y0q a_3 (fun p hp => by obtain ⟨j, hj, rfl⟩ := List.mem_iff_getElem.1 hp; exact a_9 j hj (by omega)), a_2⟩⟩
 | cons u w =>
  obtain ⟨p, v⟩ := u
  have hi : i < o.length := by
   apply Classical.byContradiction
   intro h
   rw [List.drop_eq_nil_iff.2 (by omega)] at a_4
   cases a_4
  rw [List.drop_eq_getElem_cons hi] at a_4
  obtain ⟨hp, hw⟩ : p = o[i] ∧ w.map Prod.fst = o.drop (i + 1) := by
   rw [List.map_cons] at a_4
   exact ⟨(List.cons.inj a_4).1, (List.cons.inj a_4).2⟩
  have hpm : p ∈ o := by rw [hp]; exact List.getElem_mem hi
  obtain ⟨hp1, hp2⟩ := a_3.lt _ hpm
  have hpv := a_7 _ (List.mem_cons_self ..)
  obtain ⟨hv1, hv2, hv3⟩ := hpv.cell
  have h0 : ∀ n : Nat, ((0 : Int) < ((n + 1 : Nat) : Int)) = True := fun n => eq_true (by omega)
  have hia : ∀ k off n, z0a 3 (.arr k 3 true off (n + 1)) 0 = some (.ptr k off) := fun k off n => by
   simp only [z0a]
   rw [if_pos ⟨by omega, by omega, trivial⟩]
   simp
  rw [List.length_cons] at a_6
  rw [zy9] at a_5
  have hl1 : (off + 3 ≤ cs.length) = True := eq_true (by omega)
  have hl2 : off + (w.length + 1) * 3 ≤ cs.length := by omega
  have hsl := fun base env st h h' => sl_1 (base := base) (env := env) (st := st) (kq := kq) (off := off) (n := w.length) (cs := cs) h h' hl2
  simp only [h0, hia, a_5, hl1, hv1, hsl, w_len, w_0, w_3, w_ac1, w_aN, ↓LA, LB, simprocAttr]
  refine z0s (zsn (p := p) ha hb he (a_2.frame (fun q hq => by rw [z00 (by omega)]) hna hkd) (by omega) hna hkd (by repeat' (first | omega | refine z01 ?_ ?_)) hp1 hp2 ⟨hv1, hv2⟩) fun r st hR => ?_
  obtain ⟨hn1, hw1, hR⟩ := hR
  obtain ⟨s1, n1, l1⟩ := st
  have hn1 : nxi + 18 ≤ n1 := hn1
  have hw1 : na ≤ l1 := hw1
  rcases hR with ⟨hd, rfl, hf⟩ | ⟨hd, rfl, hy, hf⟩
  ·have hf : ∀ z, z < nxi + 18 → sget s1 z = sget ((nxi + 6, Obj.cells [V.d (D.int IntKind.i64 (p.1 : Nat)), V.d (D.int IntKind.i64 (p.2 : Nat)), v]) :: si) z := hf
   have w_y1 : sget s1 kz = some (.cells [.ptr kd 0]) := by rw [hf _ (by omega), z00 (by omega)]; exact w_ac0
   have w_y3 : sget s1 (nxi + 6) = some (.cells [.d (.int .i64 (p.1 : Nat)), .d (.int .i64 (p.2 : Nat)), v]) := by rw [hf _ (by omega)]; exact z02
   have hy2 : Ys a b na kd k E s1 := a_2.frame (fun q hq => by rw [hf _ (by omega), z00 (by omega)]) hna hkd
   have hkd1 : kd < n1 := by omega
   have hUl := fun j lw => zes (lw := lw) ha hb (nx := n1 + j) (by omega) hy2.dk hp1 hp2
   have hBl := fun j lw => zrg (lw := lw) ga gb (nx := n1 + j) (by omega) hy2.dk hp1 hp2 hd
   rw [hd] at hUl
   unfold prD at hUl hBl
   have w_y4 : sget s1 kq = some (.cells cs) := by rw [hf _ (by omega), z00 (by omega)]; exact w_ac1
   have w_y5 : sget s1 km = some (.map 114 es) := by rw [hf _ (by omega), z00 (by omega)]; exact w_ac2
   simp only [hUl, hBl, zmo, z7f, w_len, w_1, w_y1, w_y3, ↓LA, LB, simprocAttr]
   obtain ⟨hdn, hdk⟩ := zb4.1 hd
   have hk1 := ga.kids _ hp1
   rw [z2j hp1] at hk1
   have hq3 : cs.drop (off + 3) = qc w := by rw [← List.drop_drop, a_5]; rfl
   have hfr : ∀ z, z < nxi → sget s1 z = sget si z := fun z hz => by rw [hf _ (by omega), z00 (by omega)]
   refine z0e (fun e0 s0 m env st => ∃ (j nxj lwj : Nat) (sj : List (Nat × Obj)) (kr ov : Nat) (q : List (Nat × Nat)) (u : List ((Nat × Nat) × V)) (ds : List V) (fs : List (D × V)), m = a.nodes[p.1].kids.length - j ∧ (j ≤ a.nodes[p.1].kids.length) ∧ (n0 ≤ kr ∧ kr < nxj ∧ kr ≠ km ∧ km < nxj ∧ (kr < nxi ∨ nxi + 18 ≤ kr)) ∧ (Ys a b na kd k E sj) ∧ (Wi a.nodes b.nodes x y q) ∧ (∃ m, q = o ++ m) ∧ (u.map Prod.fst = q.drop (i + 1)) ∧ (ds.drop ov = qc u) ∧ (ov + u.length * 3 = ds.length) ∧ (∀ z ∈ u, PQ sj n0 kr km nxj (i + 1) z.2) ∧ (PQ sj n0 kr km nxj i v) ∧ (Mq fs q) ∧ (∀ t, t < j → (kid a.nodes p.1 t, kid b.nodes p.2 t) ∈ q) ∧ sget sj (kz) = some (.cells [.ptr kd 0]) ∧ sget sj (nxi + 6) = some (.cells [.d (.int .i64 (p.1 : Nat)), .d (.int .i64 (p.2 : Nat)), v]) ∧ sget sj (kr) = some (.cells ds) ∧ sget sj (km) = some (.map 114 fs) ∧ nxi + 18 ≤ nxj ∧ na ≤ lwj ∧ env.length = 76 ∧ env.getD 53 .undef = .d (.int .i64 j) ∧ env.getD 0 .undef = .yld k ∧ env.getD 1 .undef = .ptr kz 0 ∧ env.getD 3 .undef = .arr kr 3 true ov u.length ∧ env.getD 4 .undef = .map km ∧ env.getD 5 .undef = .ptr (nxi + 6) 0 ∧ env.getD 51 .undef = z8s (kidp a.nodes b.nodes p a.nodes[p.1].kids.length) ∧ env.getD 52 .undef = .d (.int .i64 a.nodes[p.1].kids.length) ∧ st = { s := sj, next := nxj, low := lwj }) ?_ (a.nodes[p.1].kids.length) (by refine ⟨0, _, _, _, kq, off + 3, o, w, cs, es, rfl, by omega, by omega, hy2, a_3, ⟨[], by simp⟩, hw, hq3, by omega, (fun z hz => (a_7 z (List.mem_cons_of_mem _ hz)).frame (fun k' _ g _ _ => hfr k' g) (.inl rfl) (by omega) (by omega)), hpv.frame (fun k' _ g _ _ => hfr k' g) (.inl rfl) (by omega) (Nat.le_refl _), a_8, fun t h => by omega, ?_, ?_, ?_, ?_, (by omega), (by first | exact Nat.zero_le _ | omega | exact z01 (by omega) (by omega) | exact z01 (z01 (by omega) (by omega)) (by omega) | exact z01 (z01 (z01 (by omega) (by omega)) (by omega)) (by omega)), ?_, ?_, ?_, ?_, ?_, ?_, ?_, ?_, ?_, rfl⟩ <;> simp only [w_len, w_4, w_0, w_1, w_y1, w_y3, w_y4, w_y5, LB, simprocAttr])
   rintro m env st ⟨j, nxj, lwj, sj, kr, ov, q, u, ds, fs, hm, b_0, b_1, b_2, b_3, b_4, b_5, b_6, b_7, b_8, b_9, b_10, b_11, w_bc0, w_bc1, w_bc2, w_bc3, w_bb, w_blo, w_len, w_53, w_0, w_1, w_3, w_4, w_5, w_51, w_52, rfl⟩
   have w_bN := aI (cf1 (x := nxj) (a := kz) (by omega)) (aI (cf1 (x := nxj) (a := nxi + 6) (by omega)) (aI (cf1 (x := nxj) (a := kr) (by omega)) (cf1 (x := nxj) (a := km) (by omega))))
   have w_bS := aI (cf2 (x := nxj) (by omega) w_bc0) (aI (cf2 (x := nxj) (by omega) w_bc1) (aI (cf2 (x := nxj) (by omega) w_bc2) (cf2 (x := nxj) (by omega) w_bc3)))
   have w_bZ := aI (zf (x := nxj) (b := nxi) (n := 18) (by omega) (by omega)) (zf (x := nxj) (b := n0) (n := 24) (by omega) (by omega))
   obtain ⟨m', hm'⟩ := b_4
   have hql := b_3.len
   have hql3 : o.length ≤ q.length := by rw [hm', List.length_append]; omega
   by_cases hj : j < a.nodes[p.1].kids.length
   ·have hj2 : j < b.nodes[p.2].kids.length := by rw [← hdk]; exact hj
    obtain ⟨hke1, hkn1⟩ := ga.at_ hp1 hj
    obtain ⟨hke2, hkn2⟩ := gb.at_ hp2 hj2
    have hat := zs7 (l := kidp a.nodes b.nodes p a.nodes[p.1].kids.length) (j := j) (by rw [z7f]; exact hj)
    rw [zz8] at hat
    have hcj := zoj (p := (kid a.nodes p.1 j, kid b.nodes p.2 j)) (by show kid _ _ _ ≤ _; omega) (by show kid _ _ _ ≤ _; omega)
    have hget := b_10 (kid a.nodes p.1 j, kid b.nodes p.2 j)
    by_cases hin : (kid a.nodes p.1 j, kid b.nodes p.2 j) ∈ q
    ·rw [if_pos hin] at hget
     have hlk := fun z nx lw zero (h : sget z km = some (.map 114 fs)) => (z86 (s := z) (nx := nx) (lw := lw) (zero := zero) hcj h).trans (congrArg (fun o => some (Option.getD o zero)) hget)
     simp only [hj, hat, hlk, Option.getD_some, z08 hj (by omega), w_len, w_53, w_4, w_51, w_52, w_bc3, w_bN, ↓LA, LB, simprocAttr]
     exact z0c (by refine ⟨_, by omega, j + 1, _, _, _, kr, ov, q, u, ds, fs, rfl, by omega, by omega, b_2.frame (fun z hz => by rw [z00 (by omega)]) hna hkd, b_3, ⟨m', hm'⟩, b_5, b_6, b_7, (fun z hz => (b_8 z hz).frame (fun k' _ g _ _ => by rw [z00 (by omega)]) (.inl rfl) (by omega) (Nat.le_refl _)), b_9.frame (fun k' _ g _ _ => by rw [z00 (by omega)]) (.inl rfl) (by omega) (Nat.le_refl _), b_10, (fun t ht => if e : t = j then by subst e; exact hin else b_11 t (by omega)), ?_, ?_, ?_, ?_, (by omega), (by first | exact Nat.zero_le _ | omega | exact z01 (by omega) (by omega) | exact z01 (z01 (by omega) (by omega)) (by omega) | exact z01 (z01 (z01 (by omega) (by omega)) (by omega)) (by omega)), ?_, ?_, ?_, ?_, ?_, ?_, ?_, ?_, ?_, rfl⟩ <;> simp only [w_len, w_0, w_1, w_3, w_4, w_5, w_51, w_52, w_bc0, w_bc1, w_bc2, w_bc3, w_bN, LB, simprocAttr])
    ·rw [if_neg hin] at hget
     have hlk := fun z nx lw zero (h : sget z km = some (.map 114 fs)) => (z86 (s := z) (nx := nx) (lw := lw) (zero := zero) hcj h).trans (congrArg (fun o => some (Option.getD o zero)) hget)
     have hUp := fun z nx lw zz (h : sget z km = some (.map 114 fs)) => z4m (s := z) (nx := nx) (lw := lw) (x := zz) hcj h
     obtain ⟨l, hl1, hl2, hl3⟩ := b_9
     have w_k0 : (km = kz) = False ∧ (km = nxi + 6) = False ∧ (km = kr) = False := by simp; omega
     have w_k1 : ∀ o', sget (sset sj km o') km = some o' := fun o' => z04 w_bc3
     simp only [hj, hat, hlk, Option.getD_none, hUp, w_len, w_53, w_3, w_4, w_5, w_51, w_52, w_bc1, w_bc3, w_bN, w_k0, ↓LA, LB, simprocAttr]
     obtain ⟨fs', hfs'⟩ : ∃ fs', fs' = z22 fs (D.agg [D.int IntKind.i64 (kid a.nodes p.1 j : Nat), D.int IntKind.i64 (kid b.nodes p.2 j : Nat)]) (V.d (D.bool true)) := ⟨_, rfl⟩
     simp only [← hfs']
     have hPL : PL ((nxj + 4, Obj.cells [V.d (D.int IntKind.i64 (kid a.nodes p.1 j : Nat)), V.d (D.int IntKind.i64 (kid b.nodes p.2 j : Nat))]) :: sset sj km (.map 114 fs')) n0 (nxj + 26) v l := by
      refine hl3.imp id ?_
      rintro ⟨k', e1, e2, e3, e4, e5, e6⟩
      exact ⟨k', e1, e2, by omega, by rw [z00 (by omega), z03 (by omega)]; exact e6⟩
     refine z0s (zrp hl1 (by omega) (lo := n0) hPL) fun r st hR => ?_
     obtain ⟨s2, n2, l2⟩ := st
     obtain ⟨hn2, hf2, hp2', hlw2⟩ := hR
     have hn2 : nxj + 26 ≤ n2 := hn2
     have hf2 : ∀ z, z < nxj + 26 → sget s2 z = sget ((nxj + 4, Obj.cells [V.d (D.int IntKind.i64 (kid a.nodes p.1 j : Nat)), V.d (D.int IntKind.i64 (kid b.nodes p.2 j : Nat))]) :: sset sj km (.map 114 fs')) z := hf2
     have hp2' : PL s2 (nxj + 26) n2 r l := hp2'
     have w_z0 : sget s2 (nxj + 4) = some (.cells [V.d (D.int IntKind.i64 (kid a.nodes p.1 j : Nat)), V.d (D.int IntKind.i64 (kid b.nodes p.2 j : Nat))]) := by rw [hf2 _ (by omega)]; exact z02
     have w_z1 : sget s2 (nxi + 6) = some (.cells [.d (.int .i64 (p.1 : Nat)), .d (.int .i64 (p.2 : Nat)), v]) := by rw [hf2 _ (by omega), z00 (by omega), z03 (by omega)]; exact w_bc1
     have w_z2 : sget s2 kr = some (.cells ds) := by rw [hf2 _ (by omega), z00 (by omega), z03 (by omega)]; exact w_bc2
     have w_z3 : sget s2 km = some (.map 114 fs') := by rw [hf2 _ (by omega), z00 (by omega)]; exact w_k1 _
     have w_z4 : sget s2 kz = some (.cells [.ptr kd 0]) := by rw [hf2 _ (by omega), z00 (by omega), z03 (by omega)]; exact w_bc0
     simp only [hv3, w_len, w_bN, w_z0, w_z1, ↓LA, LB, simprocAttr]
     have hPL2 : PL ((nxj + 20, Obj.cells [V.d (D.int IntKind.i64 (j : Nat))]) :: s2) (nxj + 26) n2 r l := hp2'.frame (fun k' g1 g2 => by rw [z00 (by omega)]) (Nat.le_refl _) (Nat.le_refl _)
     refine hPL2.pv hl1 (by omega) rfl z02 fun s3 l3 hf3 hlw3 => ?_
     have hl2' : na ≤ l2 := hlw2 na (by repeat' (first | omega | refine z01 ?_ ?_)) (by omega)
     have hl3' : na ≤ l3 := hlw3 na (by repeat' (first | omega | refine z01 ?_ ?_)) (by omega)
     have hf4 : ∀ z, z < nxj + 20 → sget s3 z = sget s2 z := fun z hz => by rw [hf3 _ (.inl (by omega)), z00 (by omega)]
     have w_v0 := (hf4 (nxj + 4) (by omega)).trans w_z0
     have w_v1 := (hf4 (nxi + 6) (by omega)).trans w_z1
     have w_v2 := (hf4 kr (by omega)).trans w_z2
     have w_v3 := (hf4 km (by omega)).trans w_z3
     have w_v4 := (hf4 kz (by omega)).trans w_z4
     have w_sd : ∀ s j, (kr = j) = False → sget (sdel s kr) j = sget s j := fun s j h => zgv h
     have w_k2 : (kr = kz) = False ∧ (kr = nxi + 6) = False ∧ (kr = km) = False := by simp; omega
     have hul : u.length ≤ 3600 := by have := congrArg List.length b_5; rw [List.length_map, List.length_drop] at this; omega
     simp only [w_len, w_z0, w_v0, ↓LA, LB, simprocAttr]
     rw [zea (n := u.length) (m := 1) (off := ov) (cs := ds) (ds := [V.d (D.int IntKind.i64 (kid a.nodes p.1 j : Nat)), V.d (D.int IntKind.i64 (kid b.nodes p.2 j : Nat)), .arr (nxj + 21) 1 false 0 (l.length + 1)]) (by simp (disch := omega) only [z00]; exact w_v2) z02 b_7.symm rfl (by omega) (by omega) rfl (by omega) (by omega)]
     simp only [z08 hj (by omega), w_len, w_53, w_bN, ↓LA, LB, simprocAttr]
     have hch : ∀ c1 c2 c3 z, z < nxj → z ≠ kr → z ≠ km → sget ((nxj + 24, c1) :: (nxj + 23, c2) :: (nxj + 21, c3) :: sdel s3 kr) z = sget sj z := fun c1 c2 c3 z g1 g2 g3 => by
      rw [z00 (by omega), z00 (by omega), z00 (by omega), z0y (by omega), hf4 _ (by omega), hf2 _ (by omega), z00 (by omega), z03 (by omega)]
     have hb9 : PQ sj n0 kr km nxj i v := ⟨l, hl1, hl2, hl3⟩
     have hwi := y0s ga.rt gb.rt b_3 (p := p) (by rw [hm']; exact List.mem_append_left _ hpm) (by rw [z2j hp1, z2j hp2]; exact hd) (k := j) (by rw [z2j hp1]; exact hj) hin
     have w_ul : u.length + 1 = (u ++ [((kid a.nodes p.1 j, kid b.nodes p.2 j), V.arr (nxj + 21) 1 false 0 (l.length + 1))]).length := by simp
     exact z0c (by refine ⟨_, by omega, j + 1, _, _, _, nxj + 24, 0, q ++ [(kid a.nodes p.1 j, kid b.nodes p.2 j)], u ++ [((kid a.nodes p.1 j, kid b.nodes p.2 j), V.arr (nxj + 21) 1 false 0 (l.length + 1))], ds.drop ov ++ [V.d (D.int IntKind.i64 (kid a.nodes p.1 j : Nat)), V.d (D.int IntKind.i64 (kid b.nodes p.2 j : Nat)), V.arr (nxj + 21) 1 false 0 (l.length + 1)], fs', rfl, by omega, by omega, b_2.frame (fun z hz => hch _ _ _ z (by omega) (by omega) (by omega)) hna hkd, hwi, ⟨m' ++ [(kid a.nodes p.1 j, kid b.nodes p.2 j)], by rw [hm', List.append_assoc]⟩, (by rw [List.map_append, b_5, List.drop_append_of_le_length (by omega)]; rfl), (by rw [List.drop_zero, b_6, zy8]), (by simp; omega), (fun z hz => (List.mem_append.1 hz).elim (fun hz => (b_8 z hz).frame (fun k' g0 g1 g2 g3 => hch _ _ _ k' g1 g2 g3) (.inr (by omega)) (by omega) (Nat.le_refl _)) (fun hz => by rw [List.mem_singleton] at hz; subst hz; exact ⟨l ++ [.int .i64 (j : Nat)], by simp [hl1, D.sc], by simp; omega, .inr ⟨nxj + 21, by simp, by omega, by omega, by omega, by omega, by rw [z00 (by omega), z00 (by omega)]; exact z02⟩⟩)), hb9.frame (fun k' g0 g1 g2 g3 => hch _ _ _ k' g1 g2 g3) (.inr (by omega)) (by omega) (Nat.le_refl _), (by rw [hfs']; exact zwm (p := (kid a.nodes p.1 j, kid b.nodes p.2 j)) b_10), (fun t ht => (Nat.lt_succ_iff_lt_or_eq.1 ht).elim (fun h => List.mem_append_left _ (b_11 t h)) (fun e => by subst e; simp)), ?_, ?_, ?_, ?_, (by omega), (by first | exact Nat.zero_le _ | omega | exact z01 (by omega) (by omega) | exact z01 (z01 (by omega) (by omega)) (by omega) | exact z01 (z01 (z01 (by omega) (by omega)) (by omega)) (by omega)), ?_, ?_, ?_, ?_, ?_, ?_, ?_, ?_, ?_, rfl⟩ <;> simp only [w_len, w_0, w_1, w_4, w_5, w_51, w_52, w_bN, w_v1, w_v3, w_v4, w_sd, w_k2, w_ul, LB, simprocAttr])
   ·have hkw : Wd a.nodes b.nodes q p := ⟨by rw [z2j hp1, z2j hp2]; exact hd, fun t ht => b_11 t (by rw [z2j hp1] at ht; omega)⟩
    have hql2 : o.length ≤ q.length := by rw [hm', List.length_append]; omega
    have hwd : ∀ t (h : t < q.length), t < i + 1 → Wd a.nodes b.nodes q q[t] := fun t ht hti => by
     have hto : t < o.length := by omega
     have hqt : q[t] = o[t] := by simp only [hm']; exact List.getElem_append_left hto
     by_cases e : t = i
     ·subst e; rw [hqt, ← hp]; exact hkw
     ·obtain ⟨g1, g2⟩ := a_9 t hto (by omega)
      rw [hqt]
      exact ⟨g1, fun z hz => by rw [hm']; exact List.mem_append_left _ (g2 z hz)⟩
    simp only [hj, w_len, w_53, w_52, ↓LA, LB, simprocAttr]
    exact z0c (by refine ⟨_, by omega, i + 1, _, _, _, kr, km, ov, q, u, ds, fs, rfl, by omega, by omega, b_2, b_3, b_5, b_6, b_7, (fun z hz => (b_8 z hz).frame (fun _ _ _ _ _ => rfl) (.inl rfl) (by omega) (Nat.le_refl _)), b_10, hwd, by omega, ?_, ?_, ?_, (by omega), (by first | exact Nat.zero_le _ | omega | exact z01 (by omega) (by omega) | exact z01 (z01 (by omega) (by omega)) (by omega) | exact z01 (z01 (z01 (by omega) (by omega)) (by omega)) (by omega)), ?_, ?_, ?_, ?_, ?_, rfl⟩ <;> simp only [w_len, w_0, w_1, w_3, w_4, w_bc0, w_bc2, w_bc3, LB, simprocAttr])
  ·simp only [w_len, ↓LA, LB, simprocAttr]
   exact ⟨by show n0 ≤ n1; omega, by show na ≤ Nat.min _ _; repeat' (first | omega | refine z01 ?_ ?_), .inr ⟨fun hb' => y0r a_3 hpm (by rw [z2j hp1, z2j hp2]; exact hd) hb', p, v, hv1, hv2, hy⟩⟩
end Go.Lift.K
namespace Go.Lift.K
open Go Go.Lift Classical
set_option maxRecDepth 100000
theorem zre {kd : Nat} {s : List (Nat × Obj)} {nx lw : Nat} : PostV (z06 G (.fn 63 [] []) [.ptr kd 0] { s := s, next := nx, low := lw }) (fun v st => v = .fn 87 [] [.ptr nx 0] ∧ ∃ lw', st = { s := (nx, .cells [.ptr kd 0]) :: s, next := nx + 4, low := lw' } ∧ ∀ m, m ≤ lw → m ≤ nx → m ≤ lw') := by
 refine z1k (first := []) (args := [.ptr kd 0]) (cap := []) T1.g63 rfl rfl rfl (fun e w_len harg => ?_)
 have w_len : e.length = 4 := w_len
 have w_0 : e.getD 0 .undef = .ptr kd 0 := harg 0 (by simp)
 clear harg
 simp only [T1.i63, w_len, w_0, ↓LA, LB, simprocAttr]
 exact ⟨_, rfl, fun m h1 h2 => by repeat' (first | omega | refine z01 ?_ ?_)⟩
def y3l (a b : TreeT) (x y : Nat) (v : V) (_ : St) : Prop := ∃ (v1 : V) (i j : Int), v = .tup [v1, .d (.agg [.int .i64 i, .int .i64 j]), .d (.bool (!decide (bis a.nodes b.nodes x y)))]
theorem zvr {a b : TreeT} (ga : Gd a.nodes) (gb : Gd b.nodes) (ha : a.ok) (hb : b.ok) {x y : Nat} (hax : a.root = x) (hby : b.root = y) (hx : x < a.nodes.length) (hy : y < b.nodes.length)
  {kd : Nat} {s : List (Nat × Obj)} {n0 lw : Nat} (hkd : kd < n0) (hd : sget s kd = some (.cells (z8v a b))) :
  PostV (z06 G (.fn 40 [] []) [.ptr kd 0] { s := s, next := n0, low := lw }) (y3l a b x y) := by
 refine z1k (first := []) (args := [.ptr kd 0]) (cap := []) T1.g40 rfl rfl rfl (fun e w_len harg => ?_)
 have w_len : e.length = 22 := w_len
 have w_0 : e.getD 0 .undef = .ptr kd 0 := harg 0 (by simp)
 clear harg
 simp only [T1.i40, w_len, w_0, ↓LA, LB, simprocAttr]
 refine z0s zre fun r st hR => ?_
 obtain ⟨rfl, lw', rfl, hlw⟩ := hR
 have w_x0 : (n0 = kd) = False := by simp; omega
 simp only [↓LA, LB, simprocAttr]
 obtain ⟨E, hE⟩ : ∃ E, E = ((((((((e.set 2 (V.ptr n0 0)).set 3 (V.ptr (n0 + 1) 0)).set 4 (V.ptr (n0 + 2) 0)).set 8 (V.ptr kd 0)).set 9 (V.fn 62 [V.ptr kd 0] [])).set 5 (V.ptr (n0 + 5) 0)).set 10 (V.ptr kd 0)).set 11 (V.fn 87 [] [V.ptr (n0 + 9) 0])) := ⟨_, rfl⟩
 rw [← hE]
 have hEe : Ye n0 kd E := by rw [hE]; constructor <;> simp only [w_len, LB, simprocAttr]
 have hE11 : E.getD 11 .undef = V.fn 87 [] [V.ptr (n0 + 9) 0] := by rw [hE]; simp only [w_len, LB, simprocAttr]
 refine y1f (fn := 87) (first := []) (cap := [.ptr (n0 + 9) 0]) hE11 ?_
 have hlw2 : n0 ≤ lw' := hlw n0 (by repeat' (first | omega | refine z01 ?_ ?_)) (by omega)
 refine PostV.mono (zot (E := E) (na := n0) (kz := n0 + 9) (k := n0 + 13) ga gb ha hb hax hby hx hy hEe (kd := kd) ?_ ?_ ?_ hkd ?_ ?_ ?_) ?_
 ·exact ⟨z02, by simp (disch := omega) only [z00]; exact hd, by simp (disch := omega) only [z00, z02], by simp (disch := omega) only [z00, z02], by simp (disch := omega) only [z00, z02], by simp (disch := omega) only [z00, z02]⟩
 ·show n0 + 13 < n0 + 13 + 1; omega
 ·omega
 ·exact hlw2
 ·simp (disch := omega) only [z00, z02]
 ·omega
 ·rintro v ⟨s1, n1, l1⟩ ⟨hn1, hl1, hR⟩
  obtain ⟨w_len, w_2, w_3, w_4, w_5⟩ := hEe
  rcases hR with ⟨hb1, hy1⟩ | ⟨hb1, p, v1, hv1, hv2, hy1⟩
  ·refine ⟨_, _, _, _, _, _, hy1.lp, by simp, ?_⟩
   have w_y0 : sget (sdel s1 (n0 + 13)) n0 = some (.cells [.nilS]) := (z0y (by omega)).trans hy1.p0
   have w_y1 : sget (sdel s1 (n0 + 13)) (n0 + 1) = some (.cells [.d (.int .i64 0), .d (.int .i64 0)]) := (z0y (by omega)).trans hy1.p1
   have w_y2 : sget (sdel s1 (n0 + 13)) (n0 + 2) = some (.cells [.d (.bool false)]) := (z0y (by omega)).trans hy1.p2
   show outB 0 _ _ _ (St.del _ _)
   simp only [St.del, w_len, w_2, w_3, w_4, w_y0, w_y1, w_y2, ↓LA, LB, simprocAttr]
   exact ⟨_, _, _, by rw [show decide (bis a.nodes b.nodes x y) = _ from decide_eq_true hb1]; rfl⟩
  ·refine ⟨_, _, _, _, _, _, hy1.lp, by simp, ?_⟩
   have w_y0 : sget (sdel s1 (n0 + 13)) n0 = some (.cells [v1]) := (z0y (by omega)).trans hy1.p0
   have w_y1 : sget (sdel s1 (n0 + 13)) (n0 + 1) = some (.cells [.d (.int .i64 (p.1 : Nat)), .d (.int .i64 (p.2 : Nat))]) := (z0y (by omega)).trans hy1.p1
   have w_y2 : sget (sdel s1 (n0 + 13)) (n0 + 2) = some (.cells [.d (.bool true)]) := (z0y (by omega)).trans hy1.p2
   show outB 0 _ _ _ (St.del _ _)
   simp only [St.del, hv1, hv2, w_len, w_2, w_3, w_4, w_y0, w_y1, w_y2, ↓LA, LB, simprocAttr]
   exact ⟨_, _, _, by rw [show decide (bis a.nodes b.nodes x y) = _ from decide_eq_false hb1]; rfl⟩
theorem zay {a b : TreeT} : z0o z0b [a, b] = if z0b a = 0 then z0b b else z0b a := by
 by_cases h : z0b a = 0 <;> by_cases h2 : z0b b = 0 <;> simp [z0o, h, h2]
noncomputable def z4x (a b : TreeT) : Bool := decide (z0b a = 0) && (decide (z0b b = 0) && decide (bis a.nodes b.nodes a.root.toNat b.root.toNat))
theorem zl4 {a b : TreeT} (ha : a.ok) (hb : b.ok) (st : St) :
  z06 G (.fn 21 [] []) [.d a.d, .d b.d] st = some (.tup [.d (.bool (z4x a b)), .d (.int .i64 (z0o z0b [a, b]))], st) := by
 have hx0 : ∀ a b : V, [a, b][0]? = some a := fun _ _ => rfl
 have hx1 : ∀ a b : V, [a, b][1]? = some b := fun _ _ => rfl
 have hz0 : ∀ a b c : V, [a, b, c][0]? = some a := fun _ _ _ => rfl
 have hz1 : ∀ a b c : V, [a, b, c][1]? = some b := fun _ _ _ => rfl
 have hz2 : ∀ a b c : V, [a, b, c][2]? = some c := fun _ _ _ => rfl
 refine z15 (ds := [a.d, b.d]) (rs := [.bool (z4x a b), .int .i64 (z0o z0b [a, b])]) T1.g21 rfl rfl (fun e w_len harg => ?_) st
 have w_len : e.length = 28 := w_len
 have w_0 := harg 0 (by simp)
 have w_1 := harg 1 (by simp)
 clear harg
 simp only [List.map_cons, List.map_nil, List.getD_cons_zero, List.getD_cons_succ] at w_0 w_1
 simp only [T1.i21, TreeT.d, w_len, w_0, w_1, ↓LA, LB, simprocAttr]
 refine z0s (zoy ha hb) fun r st hR => ?_
 obtain ⟨hn, hf, ⟨e0, kd, rfl, hk0, hk1, hk2⟩ | ⟨h, rfl⟩⟩ := hR
 ·have e0' := e0
  rw [zay] at e0'
  have ea : z0b a = 0 := by
   apply Classical.byContradiction
   intro h
   rw [if_neg h] at e0'
   exact h e0'
  rw [if_pos ea] at e0'
  have eb := e0'
  have oa := z6l ea
  have ob := z6l eb
  have hax : a.root = (a.root.toNat : Nat) := by have := oa.rl; omega
  have hby : b.root = (b.root.toNat : Nat) := by have := ob.rl; omega
  have hx : a.root.toNat < a.nodes.length := by have := oa.rh; omega
  have hy : b.root.toNat < b.nodes.length := by have := ob.rh; omega
  obtain ⟨s1, n1, l1⟩ := st
  simp only [hx0, hx1, w_len, ↓LA, LB, simprocAttr]
  refine z0s (zvr oa.gd ob.gd ha hb hax hby hx hy (by show kd < n1 + _; have : kd < n1 := hk1; omega) hk2) fun r st hR => ?_
  obtain ⟨v1, ci1, ci2, rfl⟩ := hR
  obtain ⟨s2, n2, l2⟩ := st
  simp only [hz0, hz1, hz2, Bool.not_not, w_len, ↓LA, LB, simprocAttr]
  exact rq2 (by rw [e0, z4x, ea, eb]; simp)
 ·have hne : decide (z0o z0b [a, b] = 0) = false := decide_eq_false h
  obtain ⟨s1, n1, l1⟩ := st
  simp only [hx0, hx1, h, w_len, ↓LA, LB, simprocAttr]
  refine rq2 ?_
  have : z4x a b = false := by
   rw [zay] at h
   unfold z4x
   by_cases ea : z0b a = 0
   ·rw [if_pos ea] at h; simp [h]
   ·simp [ea]
  rw [this]
end Go.Lift.K
namespace Go.Lift.K
open Go Go.Lift Classical
set_option maxRecDepth 100000
theorem NodeT.inj {a b : NodeT} (h : a.d = b.d) : a = b := by
 cases a; cases b
 simp only [NodeT.d, D.agg.injEq, List.cons.injEq, D.str.injEq, D.sl.injEq, and_true] at h
 obtain ⟨h1, h2⟩ := h
 rw [h1, (List.map_inj_right (f := D.int .i64) (fun x y e => by injection e)).1 h2]
theorem TreeT.inj {a b : TreeT} (h : a.d = b.d) : a = b := by
 cases a; cases b
 simp only [TreeT.d, D.agg.injEq, List.cons.injEq, D.int.injEq, D.sl.injEq, and_true, true_and] at h
 obtain ⟨h1, h2⟩ := h
 rw [h2, (List.map_inj_right (f := NodeT.d) (fun x y e => NodeT.inj e)).1 h1]
noncomputable def alP (x y : D) : Bool := decide (∃ a b : TreeT, a.d = x ∧ b.d = y ∧ z4x a b = true)
theorem y3b {a b : TreeT} : alP a.d b.d = z4x a b := by
 unfold alP
 rw [Bool.eq_iff_iff, decide_eq_true_eq]
 refine ⟨?_, fun h => ⟨a, b, rfl, rfl, h⟩⟩
 rintro ⟨a', b', h1, h2, h⟩
 rw [TreeT.inj h1, TreeT.inj h2] at h
 exact h
theorem zbg {a b : TreeT} : z4x a b = true ↔ z0b a = 0 ∧ z0b b = 0 ∧ z2c a = z2c b := by
 unfold z4x
 simp only [Bool.and_eq_true, decide_eq_true_eq]
 refine and_congr_right fun h1 => and_congr_right fun h2 => ?_
 have oa := z6l h1
 have ob := z6l h2
 rw [← zpz oa.gd.rt ob.gd.rt oa.nat.2 ob.nat.2]
 unfold z2c
 exact ⟨fun h => by rw [h], fun h => by injection h⟩
theorem zx1 {l : List TreeT} : z0o z0b l = 0 ↔ ∀ t ∈ l, z0b t = 0 := by
 unfold z0o
 constructor
 ·intro h t ht
  apply Classical.byContradiction
  intro h0
  cases hf : l.find? (fun t => decide (z0b t ≠ 0)) with
  | none =>
   rw [List.find?_eq_none] at hf
   have := hf t ht
   simp at this
   exact h0 this
  | some u =>
   rw [hf] at h
   have := List.find?_some hf
   simp at this
   exact this h
 ·intro h
  have : l.find? (fun t => decide (z0b t ≠ 0)) = none := by
   rw [List.find?_eq_none]
   intro x hx
   simp [h x hx]
  rw [this]
theorem zgk : ∀ {l m : List TreeT}, all2 alP (l.map TreeT.d) (m.map TreeT.d) = true ↔ (∀ t ∈ l, z0b t = 0) ∧ (∀ t ∈ m, z0b t = 0) ∧ l.map z2c = m.map z2c
 | [], [] => by simp [all2]
 | [], _ :: _ => by simp [all2]
 | _ :: _, [] => by simp [all2]
 | x :: l, y :: m => by
  simp only [List.map_cons, all2, Bool.and_eq_true, y3b, zbg, zgk (l := l) (m := m), List.forall_mem_cons, List.cons.injEq]
  constructor
  ·rintro ⟨⟨a1, a2, a3⟩, b1, b2, b3⟩; exact ⟨⟨a1, b1⟩, ⟨a2, b2⟩, a3, b3⟩
  ·rintro ⟨⟨a1, b1⟩, ⟨a2, b2⟩, a3, b3⟩; exact ⟨⟨a1, a2, a3⟩, b1, b2, b3⟩
theorem zy2 {a b : GoalT} : z9x a b = (decide (a.rel = b.rel) && all2 alP (a.args.map TreeT.d) (b.args.map TreeT.d)) := by
 have hg : z1i a = z1i b ↔ a.rel = b.rel ∧ a.args.map z2c = b.args.map z2c := by unfold z1i; simp
 rw [Bool.eq_iff_iff, z9x, Bool.and_eq_true, Bool.and_eq_true, Bool.and_eq_true, decide_eq_true_eq, decide_eq_true_eq, decide_eq_true_eq, decide_eq_true_eq, zgk, zx1, zx1, hg]
 constructor
 ·rintro ⟨h1, h2, h3, h4⟩; exact ⟨h3, h1, h2, h4⟩
 ·rintro ⟨h3, h1, h2, h4⟩; exact ⟨h1, h2, h3, h4⟩
theorem zt7 {a b : TreeT} (ha : a.ok) (hb : b.ok) (st : St) : z06 G (.fn 20 [] []) [.d a.d, .d b.d] st = some (.d (.bool (z4x a b)), st) := by
 have hA := fun st => zl4 ha hb st
 simp only [TreeT.d] at hA
 have hx0 : ∀ a b : V, [a, b][0]? = some a := fun _ _ => rfl
 have hx1 : ∀ a b : V, [a, b][1]? = some b := fun _ _ => rfl
 refine z15 (ds := [a.d, b.d]) (rs := [.bool (z4x a b)]) T1.g20 rfl rfl (fun e w_len harg => ?_) st
 have w_len : e.length = 18 := w_len
 have w_0 := harg 0 (by simp)
 have w_1 := harg 1 (by simp)
 clear harg
 simp only [List.map_cons, List.map_nil, List.getD_cons_zero, List.getD_cons_succ] at w_0 w_1
 cases h1 : z4x a b with
 | true =>
  obtain ⟨e1, e2, _⟩ := zbg.1 h1
  have e0 : z0o z0b [a, b] = 0 := by rw [zay, if_pos e1, e2]
  rw [h1, e0] at hA
  simp only [T1.i20, TreeT.d, hA, hx0, hx1, w_len, w_0, w_1, ↓LA, LB, simprocAttr]
  exact rq1 (by simp)
 | false =>
  rw [h1] at hA
  simp only [T1.i20, TreeT.d, hA, hx0, hx1, w_len, w_0, w_1, ↓LA, LB, simprocAttr]
  exact rq1 (by simp)
theorem zj0 {a b : GoalT} (ha : a.ok) (hb : b.ok) (st : St) : z06 G (.fn 8 [] []) [.d a.d, .d b.d] st = some (.d (.bool (z9x a b)), st) := by
 have hl := ha.2.1
 unfold LOk at hl
 have hE := fun (s : List (Nat × Obj)) (nx lw : Nat) => y49 (s := s) (nx := nx) (lw := lw) (l := a.args.map TreeT.d) (m := b.args.map TreeT.d) (p := alP) (fv := .fn 20 [] []) T1.g19 rfl (by simpa using hl) (z0j fun a => z2n) (z0j fun a => z2n) (fun x y ⟨hx, hy⟩ s' nx lw _ _ => by
  obtain ⟨u, hu, rfl⟩ := List.mem_map.1 hx
  obtain ⟨v, hv, rfl⟩ := List.mem_map.1 hy
  rw [y3b]
  exact zt7 (ha.2.2 u hu) (hb.2.2 v hv) _)
 rw [zy2]
 refine z15 (ds := [a.d, b.d]) (rs := [.bool (decide (a.rel = b.rel) && all2 alP (a.args.map TreeT.d) (b.args.map TreeT.d))]) T1.g8 rfl rfl (fun e w_len harg => ?_) st
 have w_len : e.length = 17 := w_len
 have w_0 := harg 0 (by simp)
 have w_1 := harg 1 (by simp)
 clear harg
 simp only [List.map_cons, List.map_nil, List.getD_cons_zero, List.getD_cons_succ] at w_0 w_1
 by_cases h1 : a.rel = b.rel
 ·simp only [T1.i8, GoalT.d, h1, hE, w_len, w_0, w_1, ↓LA, LB, simprocAttr]
  exact rq1 (by simp)
 ·simp only [T1.i8, GoalT.d, h1, w_len, w_0, w_1, ↓LA, LB, simprocAttr]
  exact rq1 (by simp)
end Go.Lift.K
