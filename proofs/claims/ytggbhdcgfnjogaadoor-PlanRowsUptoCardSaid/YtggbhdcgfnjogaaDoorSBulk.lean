import Derived.Test.YtggbhdcgfnjogaaDoorSArg
set_option linter.unusedVariables false
namespace Go.Proofs.YtggbhdcgfnjogaaDoor.Arg
open Go.RowKit Go.Proofs.YtggbhdcgfnjogaaDoor.PPl Go.Proofs.YtggbhdcgfnjogaaDoorW.PrintWords
section
variable {H : Type}
theorem part_le {d : DataW H} {l : List (DataW H)} (h : d ∈ l) : Rows.uptoBulk d ≤ Rows.uptoBulkAll l := by
 induction l with
 | nil => cases h
 | cons x r ih =>
  simp only [Rows.uptoBulkAll]
  cases List.mem_cons.1 h with
  | inl e => subst e; omega
  | inr e => have := ih e; omega
theorem size_of (s : ByteArray) : s.data.toList.length = s.size := by rw [Array.length_toList]; rfl
theorem bound {l : List (DataW H)} (hk : Rows.uptoSmall H l = true) : Rows.uptoBulkAll l ≤ 1048576 := of_decide_eq_true hk
theorem cols_le {l : List S87} {d : DataW H} (h : Elems goodCol l d) : ∀ c ∈ l, c.f0.size ≤ Rows.uptoBulk d := by
 intro c hc
 rcases h with ⟨_, rfl⟩ | ⟨D, S, rfl, _, hg⟩
 · simp at hc
 · obtain ⟨z, hz, hgz⟩ := hg c hc
   have h1 := part_le hz
   unfold goodCol at hgz
   subst hgz
   simp only [Rows.uptoBulk, Rows.uptoBulkAll, size_of] at h1 ⊢
   omega
theorem vals_le {l : List S84} {d : DataW H} (h : Elems goodVal' l d) : (∀ x ∈ l, x.f2.size ≤ Rows.uptoBulk d) ∧ l.length ≤ Rows.uptoBulk d := by
 rcases h with ⟨_, rfl⟩ | ⟨D, S, rfl, hl, hg⟩
 · simp
 · refine ⟨fun c hc => ?_, ?_⟩
   · obtain ⟨z, hz, _, hgz⟩ := hg c hc
     have h1 := part_le hz
     subst hgz
     simp only [Rows.uptoBulk, Rows.uptoBulkAll, size_of] at h1 ⊢
     omega
   · have hlen : ∀ l : List (DataW H), l.length ≤ Rows.uptoBulkAll l := by
      intro l
      induction l with
      | nil => simp [Rows.uptoBulkAll]
      | cons x r ih =>
       have : 1 ≤ Rows.uptoBulk x := by cases x with
        | lit l => cases l <;> simp [Rows.uptoBulk]
        | nil => simp [Rows.uptoBulk]
        | ptr d => simp [Rows.uptoBulk]
        | slice elems spare => simp [Rows.uptoBulk]
        | agg parts => simp [Rows.uptoBulk]
        | iface t d => simp [Rows.uptoBulk]
        | map entries => simp [Rows.uptoBulk]
        | held h => simp [Rows.uptoBulk]
       simp only [Rows.uptoBulkAll, List.length_cons]; omega
     have := hlen D
     simp only [Rows.uptoBulk]
     omega
theorem ints_in {l : List Int} {d : DataW H} (h : Elems goodInt l d) : ∀ x ∈ l, -9223372036854775808 ≤ x ∧ x ≤ 9223372036854775807 := by
 intro c hc
 rcases h with ⟨_, rfl⟩ | ⟨D, S, rfl, _, hg⟩
 · simp at hc
 · obtain ⟨z, hz, hgz, _⟩ := hg c hc
   exact hgz
theorem vals_in {l : List S84} {d : DataW H} (h : Elems goodVal' l d) : ∀ x ∈ l, -9223372036854775808 ≤ x.f1 ∧ x.f1 ≤ 9223372036854775807 := by
 intro c hc
 rcases h with ⟨_, rfl⟩ | ⟨D, S, rfl, _, hg⟩
 · simp at hc
 · obtain ⟨z, hz, hgz, _⟩ := hg c hc
   exact hgz
end
end Go.Proofs.YtggbhdcgfnjogaaDoor.Arg

