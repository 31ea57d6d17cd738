import Derived.Test.YtggbhdcgfnjogaaDoorTArg
set_option linter.unusedVariables false
namespace Go.Proofs.YtggbhdcgfnjogaaDoor.Arg
open Go.RowKit Go.Proofs.YtggbhdcgfnjogaaDoor.PPl Go.Proofs.YtggbhdcgfnjogaaDoorW.PrintWords
section
variable {H : Type}
theorem part_le {d : DataW H} {l : List (DataW H)} (h : d ∈ l) : Rows.uptoBulk d ≤ Rows.uptoBulkAll l := by
 induction l with
 | nil => cases h
 | cons x r ih =>
  simp only [Rows.uptoBulkAll]
  cases List.mem_cons.1 h with
  | inl e => subst e; omega
  | inr e => have := ih e; omega
theorem size_of (s : ByteArray) : s.data.toList.length = s.size := by rw [Array.length_toList]; rfl
theorem bound {l : List (DataW H)} (hk : Rows.uptoSmall H l = true) : Rows.uptoBulkAll l ≤ 1048576 := of_decide_eq_true hk
theorem cols_le {l : List S87} {d : DataW H} (h : Elems goodCol l d) : ∀ c ∈ l, c.f0.size ≤ Rows.uptoBulk d := by
 intro c hc
 rcases h with ⟨_, rfl⟩ | ⟨D, S, rfl, _, hg⟩
 · simp at hc
 · obtain ⟨z, hz, hgz⟩ := hg c hc
   have h1 := part_le hz
   unfold goodCol at hgz
   subst hgz
   simp only [Rows.uptoBulk, Rows.uptoBulkAll, size_of] at h1 ⊢
   omega
theorem ints_in {l : List Int} {d : DataW H} (h : Elems goodInt l d) : ∀ x ∈ l, -9223372036854775808 ≤ x ∧ x ≤ 9223372036854775807 := by
 intro c hc
 rcases h with ⟨_, rfl⟩ | ⟨D, S, rfl, _, hg⟩
 · simp at hc
 · obtain ⟨z, hz, hgz, _⟩ := hg c hc
   exact hgz
end
end Go.Proofs.YtggbhdcgfnjogaaDoor.Arg

