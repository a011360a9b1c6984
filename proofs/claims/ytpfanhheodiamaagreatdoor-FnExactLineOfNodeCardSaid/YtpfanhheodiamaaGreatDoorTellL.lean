
/-
  What is left to tell. (For the texts that gen_telld.py writes.)
-/
import Derived.Test.YtpfanhheodiamaaGreatDoorTellC
namespace Go.Proofs.YtpfanhheodiamaaGreatDoor
open Go.RowKit
set_option linter.unusedVariables false
set_option linter.unusedSimpArgs false

/-- From state s what is left leads to fin, which is not too long. -/
def LeftE (f : Nat → TS → TS) (s : TS) (es : List Ev) (fin : TS) : Prop := Mono f ∧ runE f s es = fin ∧ fin.1.length ≤ 1000000
section
variable {f : Nat → TS → TS} {s fin : TS} {a b : List Ev}
theorem LeftE.seg (h : LeftE f s (a ++ b) fin) : (runE f s a).1.length ≤ 1000000 ∧ LeftE f (runE f s a) b fin := by
  obtain ⟨hm, h1, h2⟩ := h
  have h3 : (runE f s (a ++ b)).1.length ≤ 1000000 := by rw [h1]; exact h2
  exact ⟨runE_head hm h3, hm, by rw [← h1, runE_app], h2⟩
theorem LeftE.done (h : LeftE f s [] fin) : s = fin := h.2.1
theorem run1_len (hm : Mono f) {e : Ev} (h : (runE f s [e]).1.length ≤ 1000000) : s.1.length ≤ 1000000 := Nat.le_trans (runE_mono hm [e] s) h
theorem run1_len1 {t : ByteArray} (h : (runE f s [mkE t]).1.length ≤ 1000000) : s.1.length + 1 ≤ 1000000 := by simpa [runE, stepE, mkE, putS] using h
theorem run1_len2 {t u : ByteArray} (h : (runE f s [mkE t, mkE u]).1.length ≤ 1000000) : s.1.length + 2 ≤ 1000000 := by simpa [runE, stepE, mkE, putS] using h
end
theorem cell_kid {W : World} {b off m j : Nat} {l : List Int} {v : Int} (h : Rd W 1 (some ⟨b, off, none⟩) m (intCells l)) (hj : j < m) (hd : l[j]? = some v) : W.cell? ⟨b, off + j, none⟩ = some (.int .i64 v) := by
  obtain ⟨b', off', e, _, hc⟩ := int_at h hj hd
  injection e with e
  injection e with e1 e2
  subst e1; subst e2
  exact hc
end Go.Proofs.YtpfanhheodiamaaGreatDoor
