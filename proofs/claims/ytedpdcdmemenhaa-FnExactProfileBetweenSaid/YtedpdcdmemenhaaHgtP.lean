/-
  The height of a terrain at a place: one model, its bounds (plain).
-/
import Derived.Test.YtedpdcdmemenhaaMath
namespace Go.Proofs.Ytedpdcdmemenhaa
def cutI (st wd X : Int) : Int := min (X / st) (wd - 2)
theorem cut_parts {st wd X : Int} (s0 : 1 ≤ st) (b0 : 2 ≤ wd) (x0 : 0 ≤ X) (x1 : X ≤ (wd - 1) * st) :
    0 ≤ cutI st wd X ∧ cutI st wd X ≤ wd - 2 ∧ 0 ≤ cutI st wd X * st ∧ 0 ≤ X - cutI st wd X * st ∧ X - cutI st wd X * st ≤ st := by
  have hd : 0 ≤ X / st := Int.ediv_nonneg x0 (by omega)
  have hm : X / st * st ≤ X := Int.ediv_mul_le X (by omega)
  have hc : 0 ≤ cutI st wd X := by unfold cutI; omega
  have hn : 0 ≤ cutI st wd X * st := Int.mul_nonneg hc (by omega)
  by_cases h : X / st ≤ wd - 2
  · have e : cutI st wd X = X / st := by unfold cutI; omega
    rw [e] at hc hn ⊢
    have hl : X < (X / st + 1) * st := Int.lt_ediv_add_one_mul_self X (by omega)
    rw [Int.add_mul, Int.one_mul] at hl
    exact ⟨hc, h, hn, by omega, by omega⟩
  · have e : cutI st wd X = wd - 2 := by unfold cutI; omega
    rw [e] at hc hn ⊢
    have h2 : (wd - 2) * st ≤ X / st * st := Int.mul_le_mul_of_nonneg_right (by omega) (by omega)
    have e2 : (wd - 1) * st = (wd - 2) * st + st := by
      have : wd - 1 = wd - 2 + 1 := by omega
      rw [this, Int.add_mul, Int.one_mul]
    exact ⟨hc, by omega, hn, by omega, by omega⟩
def hgt4 (st u v h1 h2 h3 h4 : Int) : Int := h1 * (st - u) * (st - v) + h2 * u * (st - v) + h3 * (st - u) * v + h4 * u * v
theorem hgt4_bd {st u v h1 h2 h3 h4 H : Int} (u0 : 0 ≤ u) (u1 : u ≤ st) (v0 : 0 ≤ v) (v1 : v ≤ st)
    (a1 : 0 ≤ h1 ∧ h1 ≤ H) (a2 : 0 ≤ h2 ∧ h2 ≤ H) (a3 : 0 ≤ h3 ∧ h3 ≤ H) (a4 : 0 ≤ h4 ∧ h4 ≤ H) :
    0 ≤ hgt4 st u v h1 h2 h3 h4 ∧ hgt4 st u v h1 h2 h3 h4 ≤ H * (st * st) := by
  have t : ∀ h p q : Int, 0 ≤ h → h ≤ H → 0 ≤ p → 0 ≤ q → 0 ≤ h * p * q ∧ h * p * q ≤ H * (p * q) := fun h p q ha hb hp hq => by
    rw [Int.mul_assoc]
    have hpq := Int.mul_nonneg hp hq
    exact ⟨Int.mul_nonneg ha hpq, Int.mul_le_mul_of_nonneg_right hb hpq⟩
  have b1 := t h1 (st - u) (st - v) a1.1 a1.2 (by omega) (by omega)
  have b2 := t h2 u (st - v) a2.1 a2.2 (by omega) (by omega)
  have b3 := t h3 (st - u) v a3.1 a3.2 (by omega) (by omega)
  have b4 := t h4 u v a4.1 a4.2 (by omega) (by omega)
  have e : H * (st * st) = H * ((st - u) * (st - v)) + H * (u * (st - v)) + H * ((st - u) * v) + H * (u * v) := by
    rw [← Int.mul_add, ← Int.add_mul, Int.sub_add_cancel, Int.add_assoc, ← Int.mul_add, ← Int.add_mul, Int.sub_add_cancel, ← Int.mul_add, ← Int.mul_add, Int.sub_add_cancel]
  unfold hgt4
  omega
def heightB (st wd ht : Int) (hs : List Int) (X Y : Int) : Int :=
  rdiv (hgt4 st (X - cutI st wd X * st) (Y - cutI st ht Y * st)
    (hs.getD (cutI st ht Y * wd + cutI st wd X).toNat 0) (hs.getD (cutI st ht Y * wd + cutI st wd X + 1).toNat 0)
    (hs.getD (cutI st ht Y * wd + cutI st wd X + wd).toNat 0) (hs.getD (cutI st ht Y * wd + cutI st wd X + wd + 1).toNat 0)) (st * st)
theorem at_bd {wd ht a k : Int} (b0 : 2 ≤ wd) (a1 : a ≤ wd - 2) (k0 : 0 ≤ k) (k1 : k ≤ ht - 2) :
    0 ≤ k * wd ∧ (k + 1) * wd = k * wd + wd ∧ k * wd + a + wd + 1 < wd * ht := by
  have h0 : 0 ≤ k * wd := Int.mul_nonneg k0 (by omega)
  have e : (k + 1) * wd = k * wd + wd := by rw [Int.add_mul, Int.one_mul]
  have h1 : (k + 2) * wd ≤ ht * wd := Int.mul_le_mul_of_nonneg_right (by omega) (by omega)
  have e2 : (k + 2) * wd = k * wd + 2 * wd := by rw [Int.add_mul]
  rw [e2, Int.mul_comm ht wd] at h1
  exact ⟨h0, e, by omega⟩
theorem height_bd {st wd ht X Y : Int} {hs : List Int} (s0 : 1 ≤ st) (b0 : 2 ≤ wd) (d0 : 2 ≤ ht) (x0 : 0 ≤ X) (x1 : X ≤ (wd - 1) * st) (y0 : 0 ≤ Y) (y1 : Y ≤ (ht - 1) * st)
    (hl : (hs.length : Int) = wd * ht) (hb : ∀ k, k < hs.length → 0 ≤ hs.getD k 0 ∧ hs.getD k 0 ≤ 90000) : 0 ≤ heightB st wd ht hs X Y ∧ heightB st wd ht hs X Y ≤ 90000 := by
  obtain ⟨a0, a1, _, u0, u1⟩ := cut_parts s0 b0 x0 x1
  obtain ⟨k0, k1, _, v0, v1⟩ := cut_parts s0 d0 y0 y1
  obtain ⟨h0, _, h2⟩ := at_bd b0 a1 k0 k1
  have sq : 0 < st * st := Int.mul_pos (by omega) (by omega)
  have b := hgt4_bd u0 u1 v0 v1 (hb (cutI st ht Y * wd + cutI st wd X).toNat (by omega)) (hb (cutI st ht Y * wd + cutI st wd X + 1).toNat (by omega))
    (hb (cutI st ht Y * wd + cutI st wd X + wd).toNat (by omega)) (hb (cutI st ht Y * wd + cutI st wd X + wd + 1).toNat (by omega))
  exact ⟨rdiv_nonneg b.1 sq, rdiv_le b.1 sq b.2⟩
theorem rdiv_two {S R : Int} (h : 0 ≤ S) : rdiv S R = (2 * S + R) / (2 * R) := by unfold rdiv; exact if_pos h
-- every number on the way by a letter
structure HgtL (st wd ht X Y : Int) (hs : List Int) (D E I K P Q U V M : Int) (m m1 m2 m3 : Nat) (h1 h2 h3 h4 a1 a2 b1 b2 c1 c2 d1 d2 R : Int) : Prop where
  eD : X / st = D
  D0 : 0 ≤ D ∧ D ≤ 230000
  eE : Y / st = E
  E0 : 0 ≤ E ∧ E ≤ 230000
  eI : min D (wd - 2) = I
  I0 : 0 ≤ I ∧ I ≤ wd - 2
  eK : min E (ht - 2) = K
  K0 : 0 ≤ K ∧ K ≤ ht - 2
  eP : I * st = P
  P0 : 0 ≤ P ∧ P ≤ 230000
  eQ : K * st = Q
  Q0 : 0 ≤ Q ∧ Q ≤ 230000
  eU : X - P = U
  U0 : 0 ≤ U ∧ U ≤ st
  eV : Y - Q = V
  V0 : 0 ≤ V ∧ V ≤ st
  eM : K * wd = M
  eM' : (K + 1) * wd = M + wd
  M0 : 0 ≤ M ∧ M ≤ 1000
  em : M + I = (m : Int)
  em1 : (m : Int) + 1 = (m1 : Int)
  em2 : (m : Int) + wd = (m2 : Int)
  em3 : (m2 : Int) + 1 = (m3 : Int)
  lt : m < hs.length ∧ m1 < hs.length ∧ m2 < hs.length ∧ m3 < hs.length
  mb : m ≤ 2000 ∧ m1 ≤ 2000 ∧ m2 ≤ 2000 ∧ m3 ≤ 2000
  g1 : hs.getD m 0 = h1
  g2 : hs.getD m1 0 = h2
  g3 : hs.getD m2 0 = h3
  g4 : hs.getD m3 0 = h4
  n1 : 0 ≤ h1 ∧ h1 ≤ 90000
  n2 : 0 ≤ h2 ∧ h2 ≤ 90000
  n3 : 0 ≤ h3 ∧ h3 ≤ 90000
  n4 : 0 ≤ h4 ∧ h4 ≤ 90000
  f1 : h1 * (st - U) = a1
  f2 : a1 * (st - V) = a2
  f3 : h2 * U = b1
  f4 : b1 * (st - V) = b2
  f5 : h3 * (st - U) = c1
  f6 : c1 * V = c2
  f7 : h4 * U = d1
  f8 : d1 * V = d2
  l1 : 0 ≤ a1 ∧ a1 ≤ 900000000
  l2 : 0 ≤ a2 ∧ a2 ≤ 9000000000000
  l3 : 0 ≤ b1 ∧ b1 ≤ 900000000
  l4 : 0 ≤ b2 ∧ b2 ≤ 9000000000000
  l5 : 0 ≤ c1 ∧ c1 ≤ 900000000
  l6 : 0 ≤ c2 ∧ c2 ≤ 9000000000000
  l7 : 0 ≤ d1 ∧ d1 ≤ 900000000
  l8 : 0 ≤ d2 ∧ d2 ≤ 9000000000000
  eR : st * st = R
  R0 : 1 ≤ R ∧ R ≤ 100000000
  res : heightB st wd ht hs X Y = rdiv (a2 + b2 + c2 + d2) R
theorem hgt_letters {st wd ht X Y : Int} {hs : List Int} (s0 : 1 ≤ st) (s1 : st ≤ 10000) (b0 : 2 ≤ wd) (b1 : wd ≤ 24) (d0 : 2 ≤ ht) (d1 : ht ≤ 24) (x0 : 0 ≤ X) (x1 : X ≤ (wd - 1) * st) (y0 : 0 ≤ Y) (y1 : Y ≤ (ht - 1) * st)
    (hl : (hs.length : Int) = wd * ht) (hb : ∀ k, k < hs.length → 0 ≤ hs.getD k 0 ∧ hs.getD k 0 ≤ 90000) :
    ∃ D E I K P Q U V M m m1 m2 m3 h1 h2 h3 h4 a1 a2 b1 b2 c1 c2 d1 d2 R, HgtL st wd ht X Y hs D E I K P Q U V M m m1 m2 m3 h1 h2 h3 h4 a1 a2 b1 b2 c1 c2 d1 d2 R := by
  obtain ⟨a0, a1, p0, u0, u1⟩ := cut_parts s0 b0 x0 x1
  obtain ⟨k0, k1, q0, v0, v1⟩ := cut_parts s0 d0 y0 y1
  obtain ⟨h0, h1, h2⟩ := at_bd b0 a1 k0 k1
  have sq := mul_nn (a := st) (b := st) (A := 10000) (B := 10000) (by omega) s1 (by omega) s1
  have sq0 : 0 < st * st := Int.mul_pos (by omega) (by omega)
  have xw := mul_nn (a := wd - 1) (b := st) (A := 23) (B := 10000) (by omega) (by omega) (by omega) s1
  have yw := mul_nn (a := ht - 1) (b := st) (A := 23) (B := 10000) (by omega) (by omega) (by omega) s1
  have mw := mul_nn (a := cutI st ht Y) (b := wd) (A := 22) (B := 24) k0 (by omega) (by omega) b1
  have D1 : X / st ≤ X := Int.ediv_le_self st x0
  have D2 : Y / st ≤ Y := Int.ediv_le_self st y0
  have D3 : 0 ≤ X / st := Int.ediv_nonneg x0 (by omega)
  have D4 : 0 ≤ Y / st := Int.ediv_nonneg y0 (by omega)
  obtain ⟨P, hP⟩ : ∃ P, P = cutI st wd X * st := ⟨_, rfl⟩
  obtain ⟨Q, hQ⟩ : ∃ Q, Q = cutI st ht Y * st := ⟨_, rfl⟩
  obtain ⟨M, hM⟩ : ∃ M, M = cutI st ht Y * wd := ⟨_, rfl⟩
  obtain ⟨H, hH⟩ : ∃ H, H = heightB st wd ht hs X Y := ⟨_, rfl⟩
  have hres := hH
  unfold heightB at hres
  rw [← hP, ← hQ, ← hM] at hres
  rw [← hP] at p0 u0 u1
  rw [← hQ] at q0 v0 v1
  rw [← hM] at h0 h2 mw
  obtain ⟨m, hm⟩ : ∃ m : Nat, (m : Int) = M + cutI st wd X := ⟨(M + cutI st wd X).toNat, by omega⟩
  obtain ⟨q, hq⟩ : ∃ q : Nat, (q : Int) = wd := ⟨wd.toNat, by omega⟩
  have t1 : (M + cutI st wd X).toNat = m := by omega
  have t2 : (M + cutI st wd X + 1).toNat = m + 1 := by omega
  have t3 : (M + cutI st wd X + wd).toNat = m + q := by omega
  have t4 : (M + cutI st wd X + wd + 1).toNat = m + q + 1 := by omega
  rw [t1, t2, t3, t4] at hres
  have g1 := hb m (by omega)
  have g2 := hb (m + 1) (by omega)
  have g3 := hb (m + q) (by omega)
  have g4 := hb (m + q + 1) (by omega)
  have l1 := mul_nn (a := hs.getD m 0) (b := st - (X - P)) (A := 90000) (B := 10000) g1.1 g1.2 (by omega) (by omega)
  have l2 := mul_nn (a := hs.getD m 0 * (st - (X - P))) (b := st - (Y - Q)) (A := 900000000) (B := 10000) l1.1 l1.2 (by omega) (by omega)
  have l3 := mul_nn (a := hs.getD (m + 1) 0) (b := X - P) (A := 90000) (B := 10000) g2.1 g2.2 (by omega) (by omega)
  have l4 := mul_nn (a := hs.getD (m + 1) 0 * (X - P)) (b := st - (Y - Q)) (A := 900000000) (B := 10000) l3.1 l3.2 (by omega) (by omega)
  have l5 := mul_nn (a := hs.getD (m + q) 0) (b := st - (X - P)) (A := 90000) (B := 10000) g3.1 g3.2 (by omega) (by omega)
  have l6 := mul_nn (a := hs.getD (m + q) 0 * (st - (X - P))) (b := Y - Q) (A := 900000000) (B := 10000) l5.1 l5.2 (by omega) (by omega)
  have l7 := mul_nn (a := hs.getD (m + q + 1) 0) (b := X - P) (A := 90000) (B := 10000) g4.1 g4.2 (by omega) (by omega)
  have l8 := mul_nn (a := hs.getD (m + q + 1) 0 * (X - P)) (b := Y - Q) (A := 900000000) (B := 10000) l7.1 l7.2 (by omega) (by omega)
  exact ⟨X / st, Y / st, cutI st wd X, cutI st ht Y, P, Q, X - P, Y - Q, M, m, m + 1, m + q, m + q + 1, _, _, _, _, _, _, _, _, _, _, _, _, _,
    { eD := rfl, D0 := ⟨D3, by omega⟩, eE := rfl, E0 := ⟨D4, by omega⟩, eI := rfl, I0 := ⟨a0, a1⟩, eK := rfl, K0 := ⟨k0, k1⟩, eP := hP.symm, P0 := ⟨p0, by omega⟩, eQ := hQ.symm, Q0 := ⟨q0, by omega⟩,
      eU := rfl, U0 := ⟨u0, u1⟩, eV := rfl, V0 := ⟨v0, v1⟩, eM := hM.symm, eM' := by rw [Int.add_mul, Int.one_mul, hM], M0 := ⟨h0, by omega⟩, em := hm.symm, em1 := by omega, em2 := by omega, em3 := by omega,
      lt := by omega, mb := by omega, g1 := rfl, g2 := rfl, g3 := rfl, g4 := rfl, n1 := g1, n2 := g2, n3 := g3, n4 := g4, f1 := rfl, f2 := rfl, f3 := rfl, f4 := rfl, f5 := rfl, f6 := rfl, f7 := rfl, f8 := rfl,
      l1 := l1, l2 := l2, l3 := l3, l4 := l4, l5 := l5, l6 := l6, l7 := l7, l8 := l8, eR := rfl, R0 := ⟨by omega, by omega⟩, res := by rw [← hH, hres]; rfl }⟩
end Go.Proofs.Ytedpdcdmemenhaa
