/-
  The plain model of GreatestLoss. No condition.
-/
import Derived.Test.YtlpjcebpfmhpnaaDoorRadioB
import Derived.Test.YtlpjcebpfmhpnaaDoorLeast
namespace Go.Proofs.YtlpjcebpfmhpnaaDoor
def greatX (p1 f1 g t K : Int) : Int := p1 - f1 + g + t - K
def greatM (s1 : ByteArray) (p1 f1 n1 d1 : Int) (m1 : List (Int × Int)) (g : Int) (s2 : ByteArray) (p2 f2 n2 d2 : Int) (m2 : List (Int × Int)) (t k : Int) : Int × Int := if radB s1 p1 f1 n1 d1 m1 = true ∧ radB s2 p2 f2 n2 d2 m2 = true then (if (-60000 ≤ g ∧ g ≤ 60000) ∧ (-60000 ≤ t ∧ t ≤ 60000) ∧ 0 ≤ k ∧ k ≤ (m2.length : Int) - 1 then (if 0 ≤ greatX p1 f1 g t (leastV m2 k.toNat f2 d2 n2) then (greatX p1 f1 g t (leastV m2 k.toNat f2 d2 n2), 0) else (0, 3)) else (0, 2)) else (0, 1)
theorem great_bad1 {s1 : ByteArray} {p1 f1 n1 d1 : Int} {m1 : List (Int × Int)} {g : Int} {s2 : ByteArray} {p2 f2 n2 d2 : Int} {m2 : List (Int × Int)} {t k : Int} (h : radB s1 p1 f1 n1 d1 m1 = false) : greatM s1 p1 f1 n1 d1 m1 g s2 p2 f2 n2 d2 m2 t k = (0, 1) := if_neg (fun q => by rw [h] at q; cases q.1)
theorem great_bad2 {s1 : ByteArray} {p1 f1 n1 d1 : Int} {m1 : List (Int × Int)} {g : Int} {s2 : ByteArray} {p2 f2 n2 d2 : Int} {m2 : List (Int × Int)} {t k : Int} (h : radB s2 p2 f2 n2 d2 m2 = false) : greatM s1 p1 f1 n1 d1 m1 g s2 p2 f2 n2 d2 m2 t k = (0, 1) := if_neg (fun q => by rw [h] at q; cases q.2)
theorem great_out {s1 : ByteArray} {p1 f1 n1 d1 : Int} {m1 : List (Int × Int)} {g : Int} {s2 : ByteArray} {p2 f2 n2 d2 : Int} {m2 : List (Int × Int)} {t k : Int} (h : radB s1 p1 f1 n1 d1 m1 = true) (h' : radB s2 p2 f2 n2 d2 m2 = true) (h1 : ¬ ((-60000 ≤ g ∧ g ≤ 60000) ∧ (-60000 ≤ t ∧ t ≤ 60000) ∧ 0 ≤ k ∧ k ≤ (m2.length : Int) - 1)) : greatM s1 p1 f1 n1 d1 m1 g s2 p2 f2 n2 d2 m2 t k = (0, 2) := by
  unfold greatM
  rw [if_pos ⟨h, h'⟩, if_neg h1]
theorem great_yes {s1 : ByteArray} {p1 f1 n1 d1 : Int} {m1 : List (Int × Int)} {g : Int} {s2 : ByteArray} {p2 f2 n2 d2 : Int} {m2 : List (Int × Int)} {t k : Int} (h : radB s1 p1 f1 n1 d1 m1 = true) (h' : radB s2 p2 f2 n2 d2 m2 = true) (h1 : (-60000 ≤ g ∧ g ≤ 60000) ∧ (-60000 ≤ t ∧ t ≤ 60000) ∧ 0 ≤ k ∧ k ≤ (m2.length : Int) - 1) (h2 : 0 ≤ greatX p1 f1 g t (leastV m2 k.toNat f2 d2 n2)) : greatM s1 p1 f1 n1 d1 m1 g s2 p2 f2 n2 d2 m2 t k = (greatX p1 f1 g t (leastV m2 k.toNat f2 d2 n2), 0) := by
  unfold greatM
  rw [if_pos ⟨h, h'⟩, if_pos h1, if_pos h2]
theorem great_none {s1 : ByteArray} {p1 f1 n1 d1 : Int} {m1 : List (Int × Int)} {g : Int} {s2 : ByteArray} {p2 f2 n2 d2 : Int} {m2 : List (Int × Int)} {t k : Int} (h : radB s1 p1 f1 n1 d1 m1 = true) (h' : radB s2 p2 f2 n2 d2 m2 = true) (h1 : (-60000 ≤ g ∧ g ≤ 60000) ∧ (-60000 ≤ t ∧ t ≤ 60000) ∧ 0 ≤ k ∧ k ≤ (m2.length : Int) - 1) (h2 : ¬ 0 ≤ greatX p1 f1 g t (leastV m2 k.toNat f2 d2 n2)) : greatM s1 p1 f1 n1 d1 m1 g s2 p2 f2 n2 d2 m2 t k = (0, 3) := by
  unfold greatM
  rw [if_pos ⟨h, h'⟩, if_pos h1, if_neg h2]
theorem least_bd {ms : List (Int × Int)} {k : Nat} {f wd n : Int} (h0 : -50000 ≤ (ms.getD k (0, 0)).1) (h1 : (ms.getD k (0, 0)).1 ≤ 100000) (d2 : wd ≤ 100000) (n1 : 0 ≤ n) (n2 : n ≤ 30000) (f1 : 0 ≤ f) (f2 : f ≤ 30000) : -300000 ≤ leastV ms k f wd n ∧ leastV ms k f wd n ≤ 300000 := by
  obtain ⟨a, b⟩ := flV_bd (wd := wd) d2 n1 n2
  unfold leastV
  omega
end Go.Proofs.YtlpjcebpfmhpnaaDoor
