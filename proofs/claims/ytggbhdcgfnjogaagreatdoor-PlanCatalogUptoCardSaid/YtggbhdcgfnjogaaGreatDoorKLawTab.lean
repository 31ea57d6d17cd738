import Derived.Test.YtggbhdcgfnjogaaGreatDoorKPPcx20
set_option linter.unusedVariables false
namespace Go.Proofs.YtggbhdcgfnjogaaGreatDoor.PlanLaw
open Go.RowKit Go.Proofs.YtggbhdcgfnjogaaGreatDoor.PPc Go.Proofs.YtggbhdcgfnjogaaGreatDoorW.PrintWords Go.Proofs.YtggbhdcgfnjogaaGreatDoorW.PrintLast
theorem z8 {i : Int} (h0 : -9223372036854775808 ≤ i) (h1 : i ≤ 9223372036854775807) : wrap64 i = i := by
 unfold wrap64
 omega
theorem zX {i n : Nat} (h : i < n) (hn : n ≤ 1000000000) : wrap64 ((i : Int) + 1) = ((i + 1 : Nat) : Int) := by
 rw [z8 (by omega) (by omega)]; rfl
theorem zC (l : List S49) (i : Nat) (h : i < l.length) : qq l (i : Int) = l[i] := by
 simp [qq, List.getD_eq_getElem?_getD, h]
theorem rd84_at (l : List S42) (i : Nat) (h : i < l.length) : qJ l (i : Int) = l[i] := by
 simp [qJ, List.getD_eq_getElem?_getD, h]
theorem xH (l : List Int) (i : Nat) (h : i < l.length) : rd l (i : Int) = l[i] := by
 simp [rd, List.getD_eq_getElem?_getD, h]
def xn (c : S49) : Bool := decide (1 ≤ c.f0.size ∧ c.f0.size ≤ 32 ∧ (c.f1 = 1 ∨ c.f1 = 2 ∨ c.f1 = 3))
def xA (cols : List S49) (x : Int) : Bool := decide (0 ≤ x ∧ x < cols.length) && (qq cols x).f2
theorem ve (s : ByteArray) : zu.f s = some (decide (1 ≤ s.size ∧ s.size ≤ 32)) := by
 unfold zu.f
 by_cases h : (s.size : Int) ≥ 1
 · rw [if_pos h]
   congr 1
   rw [decide_eq_decide]
   omega
 · rw [if_neg h]
   congr 1
   symm
   rw [decide_eq_false_iff_not]
   omega
theorem isType_is (x : Int) : zT.f x = some (decide (x = 1 ∨ x = 2 ∨ x = 3)) := by
 unfold zT.f
 by_cases h : x = 1
 · simp [h]
 by_cases h2 : x = 2
 · simp [h2]
 rw [if_neg h, if_neg h2]
 congr 1
 by_cases h3 : x = 3
 · simp [h3]
 · simp [h, h2, h3]
theorem prog_l1 (cols : List S49) (key : List Int) (a : ByteArray) (b : Int) (hk : key.length ≤ 1000) (r : Bool)
 (hr : Ev (fun _ => (zp.f cols).bind fun t109 => ((zf.f t109).bind fun t112 => (if t112 = true then (some false) else ((zn.f key).bind fun t113 => (some (!t113)))))) r) :
 ∀ (d i : Nat), i + d = key.length → Ev (fun k => qy.l1 k key (key.length : Int) (i : Int) a b cols key) ((key.drop i).all (xA cols) && r) := by
 intro d
 induction d with
 | zero =>
  intro i hi;rw [List.drop_of_length_le (by omega)];refine Ev.step (fun k => ?_) (hr);simp only [qy.l1];rw [if_neg (by omega)]
 | succ d ih =>
  intro i hi
  have hlt : i < key.length := by omega
  rw [List.drop_eq_getElem_cons hlt, List.all_cons]
  by_cases h1 : key[i] < 0
  · refine Ev.step (f := fun _ => some false) (fun k => ?_) ?_
    · simp only [qy.l1]
      rw [if_pos (by omega), if_pos (by omega), if_pos (by omega), xH key i hlt, if_pos h1]
    · have : xA cols key[i] = false := by unfold xA; rw [decide_eq_false (by omega)]; rfl
      rw [this]
      exact Ev.now _
  by_cases h2 : key[i] ≥ (cols.length : Int)
  · refine Ev.step (f := fun _ => some false) (fun k => ?_) ?_
    · simp only [qy.l1]
      rw [if_pos (by omega), if_pos (by omega), if_pos (by omega), xH key i hlt, if_neg h1, if_pos h2]
    · have : xA cols key[i] = false := by unfold xA; rw [decide_eq_false (by omega)]; rfl
      rw [this]
      exact Ev.now _
  have e : xA cols key[i] = (qq cols key[i]).f2 := by unfold xA; rw [decide_eq_true (by omega)]; rfl
  rw [e]
  cases hf : (qq cols key[i]).f2 with
  | true =>
   refine Ev.step (fun k => ?_) (by have := ih (i + 1) (by omega); rw [Bool.true_and]; exact this);simp only [qy.l1];rw [if_pos (by omega), if_pos (by omega), if_pos (by omega), xH key i hlt, if_neg h1, if_neg h2, if_pos (by omega), if_pos (by omega), if_pos hf, zX hlt (by omega)]
  | false =>
   refine Ev.step (f := fun _ => some false) (fun k => ?_) (by rw [Bool.false_and, Bool.false_and]; exact Ev.now _);simp only [qy.l1];rw [if_pos (by omega), if_pos (by omega), if_pos (by omega), xH key i hlt, if_neg h1, if_neg h2, if_pos (by omega), if_pos (by omega), if_neg (by rw [hf]; simp)]
theorem prog_l0 (cols : List S49) (key : List Int) (a : ByteArray) (b : Int) (hk : cols.length ≤ 1000) (r : Bool)
 (hr : Ev (fun k => qy.l1 k key (key.length : Int) 0 a b cols key) r) :
 ∀ (d i : Nat), i + d = cols.length → Ev (fun k => qy.l0 k cols (cols.length : Int) (i : Int) a b cols key) ((cols.drop i).all xn && r) := by
 intro d
 induction d with
 | zero =>
  intro i hi;rw [List.drop_of_length_le (by omega)];refine Ev.step (fun k => ?_) (hr);simp only [qy.l0];rw [if_neg (by omega)]
 | succ d ih =>
  intro i hi
  have hlt : i < cols.length := by omega
  rw [List.drop_eq_getElem_cons hlt, List.all_cons]
  have e : xn cols[i] = (decide (1 ≤ cols[i].f0.size ∧ cols[i].f0.size ≤ 32) && decide (cols[i].f1 = 1 ∨ cols[i].f1 = 2 ∨ cols[i].f1 = 3)) := by
   unfold xn;rw [← Bool.decide_and];rw [decide_eq_decide]
   exact and_assoc.symm
  rw [e]
  cases h1 : decide (1 ≤ cols[i].f0.size ∧ cols[i].f0.size ≤ 32) with
  | false =>
   refine Ev.step (f := fun _ => some false) (fun k => ?_) (by rw [Bool.false_and, Bool.false_and, Bool.false_and]; exact Ev.now _);simp only [qy.l0];rw [if_pos (by omega), if_pos (by omega), if_pos (by omega), zC cols i hlt, ve, h1]
   rfl
  | true =>
   cases h2 : decide (cols[i].f1 = 1 ∨ cols[i].f1 = 2 ∨ cols[i].f1 = 3) with
   | false =>
    refine Ev.step (f := fun _ => some false) (fun k => ?_) (by rw [Bool.and_false, Bool.false_and, Bool.false_and]; exact Ev.now _);simp only [qy.l0];rw [if_pos (by omega), if_pos (by omega), if_pos (by omega), zC cols i hlt, ve, h1, isType_is, h2]
    rfl
   | true =>
    refine Ev.step (fun k => ?_) (by have := ih (i + 1) (by omega); rw [Bool.true_and, Bool.true_and]; exact this);simp only [qy.l0];rw [if_pos (by omega), if_pos (by omega), if_pos (by omega), zC cols i hlt, ve, h1, isType_is, h2, zX hlt (by omega)]
    rfl
theorem dup_not {α : Type} [BEq α] [LawfulBEq α] : ∀ (l seen : List α), zI seen l = false ↔ (l.Nodup ∧ ∀ x ∈ l, x ∉ seen) := by
 intro l
 induction l with
 | nil => intro seen; simp [zI]
 | cons x l ih =>
  intro seen;unfold zI
  by_cases h : seen.contains x = true
  · rw [if_pos h]
    simp only [Bool.true_eq_false, false_iff, not_and];intro _ hn
    exact hn x (by simp) (by simpa using h)
  · rw [if_neg h, ih]
    simp only [List.nodup_cons, List.mem_append, List.mem_cons, List.not_mem_nil, or_false, not_or]
    have hx : x ∉ seen := by simpa using h
    constructor
    · rintro ⟨h1, h2⟩
      refine ⟨⟨fun hm => (h2 x hm).2 rfl, h1⟩, ?_⟩
      rintro y (rfl | hy)
      · exact hx
      · exact (h2 y hy).1
    · rintro ⟨⟨h1, h2⟩, h3⟩
      refine ⟨h2, fun y hy => ⟨h3 y (Or.inr hy), ?_⟩⟩
      rintro rfl
      exact h1 hy
theorem dup_nodup {α : Type} [BEq α] [LawfulBEq α] (l : List α) : zI [] l = false ↔ l.Nodup := by
 rw [dup_not]
 simp
def xR (cols : List S49) : List (List UInt8) := (cols.map (·.f0)).map fun s => s.data.toList
def lens (nm : ByteArray) (num : Int) (cols : List S49) (key : List Int) : Bool := decide (1 ≤ nm.size ∧ nm.size ≤ 32 ∧ 1 ≤ num ∧ 1 ≤ cols.length ∧ cols.length ≤ 16 ∧ 1 ≤ key.length ∧ key.length ≤ 8)
def xy (nm : ByteArray) (num : Int) (cols : List S49) (key : List Int) : Bool :=
 lens nm num cols key && (cols.all xn && (key.all (xA cols) && (!zI [] (xR cols) && !zI [] key)))
theorem prog_isTab (nm : ByteArray) (num : Int) (cols : List S49) (key : List Int) (hc : ∀ c ∈ cols, c.f0.size ≤ 1000000000) (hk : ∀ x ∈ key, -9223372036854775808 ≤ x ∧ x ≤ 9223372036854775807) :
 Ev (fun k => qy.f k nm num cols key) (xy nm num cols key) := by
 by_cases hl : 1 ≤ nm.size ∧ nm.size ≤ 32 ∧ 1 ≤ num ∧ 1 ≤ cols.length ∧ cols.length ≤ 16 ∧ 1 ≤ key.length ∧ key.length ≤ 8
 · have e : lens nm num cols key = true := decide_eq_true hl
   obtain ⟨a1, a2, a3, a4, a5, a6, a7⟩ := hl
   have tail : Ev (fun _ => (zp.f cols).bind fun t109 => ((zf.f t109).bind fun t112 => (if t112 = true then (some false) else ((zn.f key).bind fun t113 => (some (!t113)))))) (!zI [] (xR cols) && !zI [] key) := by
    have e1 : zp.f cols = some (cols.map (·.f0)) := by unfold zp.f; rw [if_pos (by omega)]
    have e2 : zf.f (cols.map (·.f0)) = some (zI [] (xR cols)) := by
     unfold zf.f;rw [if_pos ⟨by simp; omega, by simp only [List.mem_map, forall_exists_index, and_imp]; rintro s c hcm rfl; exact hc c hcm⟩]
     rfl
    have e3 : zn.f key = some (zI [] key) := by unfold zn.f; rw [if_pos ⟨by omega, hk⟩]
    refine Ev.congr (fun k => ?_) (Ev.now _);rw [e1];simp only [Option.bind_some];rw [e2];simp only [Option.bind_some];rw [e3]
    cases zI [] (xR cols) <;> simp
   have l1 := prog_l1 cols key nm num (by omega) _ tail key.length 0 (by omega);have l0 := prog_l0 cols key nm num (by omega) _ l1 cols.length 0 (by omega);unfold xy;rw [e, Bool.true_and];refine Ev.congr (f := fun k => qy.j0 k false nm num cols key) (fun k => ?_) (Ev.step (fun k => ?_) l0)
   · unfold qy.f
     rw [if_neg (by omega), ve, decide_eq_true ⟨a1, a2⟩];simp only [Option.bind_some, if_true];rw [if_neg (by omega), if_neg (by omega), if_neg (by omega), decide_eq_false (by omega)]
   · simp only [qy.j0]
     rfl
 · have e : xy nm num cols key = false := by unfold xy lens; rw [decide_eq_false hl]; rfl
   rw [e];refine Ev.congr (f := fun k => qy.j0 k true nm num cols key) (fun k => ?_) (Ev.step (f := fun _ => some false) (fun k => ?_) (Ev.now _))
   · unfold qy.f
     by_cases c1 : num < 1
     · rw [if_pos c1]
     rw [if_neg c1, ve];simp only [Option.bind_some, decide_eq_true_eq]
     by_cases c2 : 1 ≤ nm.size ∧ nm.size ≤ 32
     · rw [if_pos c2]
       by_cases c3 : (cols.length : Int) < 1
       · rw [if_pos c3]
       rw [if_neg c3]
       by_cases c4 : (cols.length : Int) > 16
       · rw [if_pos c4]
       rw [if_neg c4]
       by_cases c5 : (key.length : Int) < 1
       · rw [if_pos c5]
       rw [if_neg c5, decide_eq_true (by omega)]
     · rw [if_neg c2]
   · simp only [qy.j0]
     rfl
theorem typed_is (x : Int) : zB.f x = some (decide (x = 1 ∨ x = 2 ∨ x = 3)) := isType_is x
theorem toList_eq (a b : ByteArray) : a.toList = b.toList ↔ a = b := by
 constructor
 · intro h
   rw [ByteArray.toList_eq, ByteArray.toList_eq] at h
   exact Go.WideShapes.bytes_inj h
 · rintro rfl; rfl
theorem find_at (cols : List S49) (nm : ByteArray) (hn : cols.length ≤ 1000) (i : Nat) (hi : i < cols.length) (he : cols[i].f0 = nm) (hno : ∀ (j : Nat) (h : j < i), ¬ (cols[j]).f0 = nm) :
 ∀ (d j : Nat), j + d = i → Ev (fun k => qY.l0 k cols nm (j : Int)) (i : Int) := by
 intro d
 induction d with
 | zero =>
  intro j hj
  obtain rfl : j = i := by omega
  refine Ev.step (f := fun _ => some ((j : Nat) : Int)) (fun k => ?_) (Ev.now _);simp only [qY.l0];rw [if_pos (by omega), if_pos (by omega), zC cols j hi, he, if_pos rfl]
 | succ d ih =>
  intro j hj;refine Ev.step (fun k => ?_) (ih (j + 1) (by omega));simp only [qY.l0];rw [if_pos (by omega), if_pos (by omega), zC cols j (by omega), if_neg (by rw [toList_eq]; exact hno j (by omega)), zX (n := cols.length) (by omega) (by omega)]
theorem least (p : Nat → Prop) : ∀ i, p i → ∃ j, j ≤ i ∧ p j ∧ ∀ m, m < j → ¬ p m := by
 intro i
 induction i using Nat.strongRecOn with
 | _ i ih =>
  intro h
  by_cases hm : ∃ m, m < i ∧ p m
  · obtain ⟨m, h1, h2⟩ := hm
    obtain ⟨j, a, b, c⟩ := ih m h1 h2
    exact ⟨j, by omega, b, c⟩
  · exact ⟨i, Nat.le_refl _, h, fun m h1 h2 => hm ⟨m, h1, h2⟩⟩
theorem find_first (cols : List S49) (hn : cols.length ≤ 1000) (i : Nat) (hi : i < cols.length) : ∃ j : Nat, j ≤ i ∧ Ev (fun k => qY.f k cols cols[i].f0) (j : Int) ∧ (j = i ↔ ∀ (m : Nat) (h : m < i), ¬ (cols[m]).f0 = cols[i].f0) := by
 obtain ⟨j, hle, ⟨hjl, hje⟩, hmin⟩ := least (fun j => ∃ h : j < cols.length, cols[j].f0 = cols[i].f0) i ⟨hi, rfl⟩;refine ⟨j, hle, find_at cols _ hn j hjl hje (fun m hm he => hmin m hm ⟨by omega, he⟩) j 0 (by omega), ?_⟩
 constructor
 · rintro rfl m hm he
   exact hmin m hm ⟨by omega, he⟩
 · intro h
   by_cases e : j = i
   · exact e
   · exact absurd hje (h j (by omega))
def fstCol (cols : List S49) (i : Nat) : Bool := decide (∀ (m : Nat), m < i → ¬ (qq cols (m : Int)).f0 = (qq cols (i : Int)).f0)
def fstKey (key : List Int) (i : Nat) : Bool := decide (∀ (m : Nat), m < i → ¬ rd key (m : Int) = rd key (i : Int))
def vf (cols : List S49) (i d : Nat) : Bool := (List.range' i d).all fun j => xn (qq cols (j : Int)) && fstCol cols j
def vg (cols : List S49) (key : List Int) (i d : Nat) : Bool := (List.range' i d).all fun j => xA cols (rd key (j : Int)) && fstKey key j
theorem ref_l2 (cols : List S49) (key : List Int) (a : ByteArray) (b : Int) (hk : key.length ≤ 1000) (i : Nat) (hi : i < key.length) (r : Bool)
 (hr : Ev (fun k => qi.l1 k (((i + 1 : Nat)) : Int) a b cols key) r) :
 ∀ (d j : Nat), j + d = i → Ev (fun k => qi.l2 k (i : Int) key[i] (j : Int) a b cols key) (decide (∀ m, m < i → j ≤ m → ¬ rd key (m : Int) = key[i]) && r) := by
 intro d
 induction d with
 | zero =>
  intro j hj;rw [decide_eq_true (by intro m h1 h2; omega), Bool.true_and];refine Ev.step (fun k => ?_) hr;simp only [qi.l2];rw [if_neg (by omega), zX hi (by omega)]
 | succ d ih =>
  intro j hj
  by_cases h : rd key (j : Int) = key[i]
  · rw [decide_eq_false (by intro hh; exact hh j (by omega) (Nat.le_refl _) h), Bool.false_and]
    refine Ev.step (f := fun _ => some false) (fun k => ?_) (Ev.now _);simp only [qi.l2];rw [if_pos (by omega), if_pos (by omega), if_pos (by omega), if_pos h]
  · have e : decide (∀ m, m < i → j ≤ m → ¬ rd key (m : Int) = key[i]) = decide (∀ m, m < i → j + 1 ≤ m → ¬ rd key (m : Int) = key[i]) := by
     rw [decide_eq_decide]
     constructor
     · intro hh m h1 h2; exact hh m h1 (by omega)
     · intro hh m h1 h2
       by_cases em : m = j
       · subst em; exact h
       · exact hh m h1 (by omega)
    rw [e];refine Ev.step (fun k => ?_) (ih (j + 1) (by omega));simp only [qi.l2];rw [if_pos (by omega), if_pos (by omega), if_pos (by omega), if_neg h, zX (n := key.length) (by omega) (by omega)]
theorem ref_l1 (cols : List S49) (key : List Int) (a : ByteArray) (b : Int) (hk : key.length ≤ 1000) :
 ∀ (d i : Nat), i + d = key.length → Ev (fun k => qi.l1 k (i : Int) a b cols key) (vg cols key i d) := by
 intro d
 induction d with
 | zero =>
  intro i hi;refine Ev.step (f := fun _ => some true) (fun k => ?_) (Ev.now _);simp only [qi.l1];rw [if_neg (by omega)]
 | succ d ih =>
  intro i hi
  have hlt : i < key.length := by omega
  have e0 : vg cols key i (d + 1) = (xA cols key[i] && fstKey key i && vg cols key (i + 1) d) := by
   unfold vg;rw [List.range'_succ, List.all_cons, xH key i hlt]
  rw [e0]
  by_cases h1 : key[i] < 0
  · have : xA cols key[i] = false := by unfold xA; rw [decide_eq_false (by omega)]; rfl
    rw [this];refine Ev.step (f := fun k => qi.j4 k (i : Int) key[i] true a b cols key) (fun k => ?_) (Ev.step (f := fun _ => some false) (fun k => ?_) (Ev.now _))
    · simp only [qi.l1]
      rw [if_pos (by omega), if_pos (by omega), xH key i hlt, if_pos h1]
    · simp only [qi.j4]; rfl
  by_cases h2 : key[i] ≥ (cols.length : Int)
  · have : xA cols key[i] = false := by unfold xA; rw [decide_eq_false (by omega)]; rfl
    rw [this];refine Ev.step (f := fun k => qi.j4 k (i : Int) key[i] true a b cols key) (fun k => ?_) (Ev.step (f := fun _ => some false) (fun k => ?_) (Ev.now _))
    · simp only [qi.l1]
      rw [if_pos (by omega), if_pos (by omega), xH key i hlt, if_neg h1, if_pos h2]
    · simp only [qi.j4]; rfl
  have e : xA cols key[i] = (qq cols key[i]).f2 := by unfold xA; rw [decide_eq_true (by omega)]; rfl
  rw [e];refine Ev.step (f := fun k => qi.j4 k (i : Int) key[i] (!(qq cols key[i]).f2) a b cols key) (fun k => ?_) ?_
  · simp only [qi.l1]
    rw [if_pos (by omega), if_pos (by omega), xH key i hlt, if_neg h1, if_neg h2, if_pos (by omega), if_pos (by omega)]
  cases hf : (qq cols key[i]).f2 with
  | false =>
   refine Ev.step (f := fun _ => some false) (fun k => ?_) (Ev.now _)
   simp only [qi.j4]; rfl
  | true =>
   have h3 := ref_l2 cols key a b hk i hlt _ (ih (i + 1) (by omega)) i 0 (by omega)
   have e3 : decide (∀ m, m < i → 0 ≤ m → ¬ rd key (m : Int) = key[i]) = fstKey key i := by
    unfold fstKey;rw [decide_eq_decide, xH key i hlt]
    exact ⟨fun h m hm => h m hm (Nat.zero_le _), fun h m hm _ => h m hm⟩
   rw [e3] at h3;refine Ev.step (fun k => ?_) (by rw [Bool.true_and]; exact h3)
   simp only [qi.j4]; rfl
theorem ref_l0 (cols : List S49) (key : List Int) (a : ByteArray) (b : Int) (hk : cols.length ≤ 1000) (r : Bool)
 (hr : Ev (fun k => qi.l1 k 0 a b cols key) r) :
 ∀ (d i : Nat), i + d = cols.length → Ev (fun k => qi.l0 k (i : Int) a b cols key) (vf cols i d && r) := by
 intro d
 induction d with
 | zero =>
  intro i hi;refine Ev.step (fun k => ?_) hr;simp only [qi.l0];rw [if_neg (by omega)]
 | succ d ih =>
  intro i hi
  have hlt : i < cols.length := by omega
  have e0 : vf cols i (d + 1) = (xn cols[i] && fstCol cols i && vf cols (i + 1) d) := by
   unfold vf;rw [List.range'_succ, List.all_cons, zC cols i hlt]
  rw [e0]
  by_cases h1 : (cols[i].f0.size : Int) < 1
  · have : xn cols[i] = false := by unfold xn; exact decide_eq_false (by omega)
    rw [this];refine Ev.step (f := fun _ => some false) (fun k => ?_) (Ev.now _);simp only [qi.l0];rw [if_pos (by omega), if_pos (by omega), zC cols i hlt, if_pos h1]
  by_cases h2 : (cols[i].f0.size : Int) > 32
  · have : xn cols[i] = false := by unfold xn; exact decide_eq_false (by omega)
    rw [this];refine Ev.step (f := fun _ => some false) (fun k => ?_) (Ev.now _);simp only [qi.l0];rw [if_pos (by omega), if_pos (by omega), zC cols i hlt, if_neg h1, if_pos h2]
  cases h3 : decide (cols[i].f1 = 1 ∨ cols[i].f1 = 2 ∨ cols[i].f1 = 3) with
  | false =>
   have : xn cols[i] = false := by unfold xn; exact decide_eq_false (fun h => (of_decide_eq_false h3) h.2.2)
   rw [this];refine Ev.step (f := fun _ => some false) (fun k => ?_) (Ev.now _);simp only [qi.l0];rw [if_pos (by omega), if_pos (by omega), zC cols i hlt, if_neg h1, if_neg h2, typed_is, h3]
   rfl
  | true =>
   have : xn cols[i] = true := by unfold xn; exact decide_eq_true ⟨by omega, by omega, of_decide_eq_true h3⟩
   rw [this, Bool.true_and];obtain ⟨j, hj, hf, he⟩ := find_first cols (by omega) i hlt;refine Ev.step (f := fun k => (qY.f k cols cols[i].f0).bind fun t153 => (if t153 = (i : Int) then (qi.l0 k (wrap64 ((i : Int) + 1)) a b cols key) else (some false))) (fun k => ?_) (Ev.bind hf ?_)
   · simp only [qi.l0]
     rw [if_pos (by omega), if_pos (by omega), zC cols i hlt, if_neg h1, if_neg h2, typed_is, h3]
     rfl
   · have e4 : fstCol cols i = decide (j = i) := by
      unfold fstCol;rw [decide_eq_decide, he]
      constructor
      · intro h m hm
        have := h m hm
        rwa [zC cols i hlt, zC cols m (by omega)] at this
      · intro h m hm
        rw [zC cols i hlt, zC cols m (by omega)]
        exact h m hm
     rw [e4]
     by_cases e : j = i
     · subst e
       rw [decide_eq_true rfl, Bool.true_and];refine Ev.congr (fun k => ?_) (ih (j + 1) (by omega));rw [if_pos rfl, zX hlt (by omega)]
     · rw [decide_eq_false e, Bool.false_and, Bool.false_and]
       refine Ev.congr (fun k => ?_) (Ev.now false);rw [if_neg (by omega)]
theorem all_range {n : Nat} {p : Nat → Bool} : (List.range' 0 n).all p = true ↔ ∀ j, j < n → p j = true := by
 rw [List.all_eq_true]
 constructor
 · intro h j hj
   exact h j (by rw [List.mem_range']; exact ⟨j, hj, by omega⟩)
 · intro h x hx
   rw [List.mem_range'] at hx;obtain ⟨i, hi, rfl⟩ := hx
   exact h _ (by omega)
theorem all_at {α : Type} (l : List α) (p : α → Bool) : l.all p = true ↔ ∀ j (h : j < l.length), p l[j] = true := by
 rw [List.all_eq_true]
 constructor
 · intro h j hj
   exact h _ (List.getElem_mem hj)
 · intro h x hx
   obtain ⟨i, hi, rfl⟩ := List.getElem_of_mem hx
   exact h i hi
theorem nodup_at {α : Type} (l : List α) : l.Nodup ↔ ∀ i (h : i < l.length), ∀ m (hm : m < i), ¬ l[m] = l[i] := by
 rw [List.nodup_iff_pairwise_ne, List.pairwise_iff_getElem]
 constructor
 · intro h i hi m hm
   exact h m i (by omega) hi hm
 · intro h i j hi hj hij
   exact h j hj i hij
theorem ref_isTab (nm : ByteArray) (num : Int) (cols : List S49) (key : List Int) :
 Ev (fun k => qi.f k nm num cols key) (xy nm num cols key) := by
 by_cases hl : 1 ≤ nm.size ∧ nm.size ≤ 32 ∧ 1 ≤ num ∧ 1 ≤ cols.length ∧ cols.length ≤ 16 ∧ 1 ≤ key.length ∧ key.length ≤ 8
 · have e : lens nm num cols key = true := decide_eq_true hl
   obtain ⟨a1, a2, a3, a4, a5, a6, a7⟩ := hl;have l1 := ref_l1 cols key nm num (by omega) key.length 0 (by omega);have l0 := ref_l0 cols key nm num (by omega) _ l1 cols.length 0 (by omega)
   have hh : (vf cols 0 cols.length && vg cols key 0 key.length) = xy nm num cols key := by
    unfold xy;rw [e, Bool.true_and, Bool.eq_iff_iff];simp only [Bool.and_eq_true, Bool.not_eq_true'];unfold vf vg;rw [all_range, all_range, all_at, all_at, dup_nodup, dup_nodup, nodup_at, nodup_at];simp only [Bool.and_eq_true]
    constructor
    · rintro ⟨h1, h2⟩
      refine ⟨fun j hj => ?_, fun j hj => ?_, fun i hi m hm => ?_, fun i hi m hm => ?_⟩
      · have := (h1 j hj).1; rwa [zC cols j hj] at this
      · have := (h2 j hj).1; rwa [xH key j hj] at this
      · have hi' : i < cols.length := by simpa [xR] using hi
        have := of_decide_eq_true (h1 i hi').2 m hm;rw [zC cols i hi', zC cols m (by omega)] at this;intro he;simp only [xR, List.getElem_map] at he
        exact this (Go.WideShapes.bytes_inj he)
      · have := of_decide_eq_true (h2 i hi).2 m hm
        rwa [xH key i hi, xH key m (by omega)] at this
    · rintro ⟨h1, h2, h3, h4⟩
      refine ⟨fun j hj => ⟨?_, ?_⟩, fun j hj => ⟨?_, ?_⟩⟩
      · rw [zC cols j hj]; exact h1 j hj
      · refine decide_eq_true (fun m hm => ?_)
        rw [zC cols j hj, zC cols m (by omega)];have := h3 j (by simpa [xR] using hj) m hm;intro he
        apply this
        simp only [xR, List.getElem_map];rw [he]
      · rw [xH key j hj]; exact h2 j hj
      · refine decide_eq_true (fun m hm => ?_)
        rw [xH key j hj, xH key m (by omega)]
        exact h4 j hj m hm
   rw [← hh];refine Ev.congr (f := fun k => qi.j0 k false nm num cols key) (fun k => ?_) (Ev.step (f := fun k => qi.j1 k false nm num cols key) (fun k => ?_) (Ev.step (fun k => ?_) l0))
   · unfold qi.f
     rw [if_neg (by omega), if_neg (by omega), decide_eq_false (by omega)]
   · simp only [qi.j0]
     rw [if_neg (by simp), if_neg (by omega), if_neg (by omega), if_neg (by omega), decide_eq_false (by omega)]
   · simp only [qi.j1]
     rfl
 · have e : xy nm num cols key = false := by unfold xy lens; rw [decide_eq_false hl]; rfl
   rw [e];have bad1 : Ev (fun k => qi.j1 k true nm num cols key) false := Ev.step (f := fun _ => some false) (fun k => by simp only [qi.j1]; rfl) (Ev.now _);have bad0 : Ev (fun k => qi.j0 k true nm num cols key) false := Ev.step (f := fun _ => some false) (fun k => by simp only [qi.j0]; rfl) (Ev.now _)
   by_cases c1 : (nm.size : Int) < 1
   · exact Ev.congr (fun k => by unfold qi.f; rw [if_pos c1]) bad0
   by_cases c2 : (nm.size : Int) > 32
   · exact Ev.congr (fun k => by unfold qi.f; rw [if_neg c1, if_pos c2]) bad0
   by_cases c3 : num < 1
   · exact Ev.congr (fun k => by unfold qi.f; rw [if_neg c1, if_neg c2, decide_eq_true c3]) bad0
   refine Ev.congr (f := fun k => qi.j0 k false nm num cols key) (fun k => by unfold qi.f; rw [if_neg c1, if_neg c2, decide_eq_false c3]) (Ev.step (f := fun k => qi.j1 k true nm num cols key) (fun k => ?_) bad1);simp only [qi.j0];rw [if_neg (by simp)]
   by_cases c4 : (cols.length : Int) < 1
   · rw [if_pos c4]
   rw [if_neg c4]
   by_cases c5 : (cols.length : Int) > 16
   · rw [if_pos c5]
   rw [if_neg c5]
   by_cases c6 : (key.length : Int) < 1
   · rw [if_pos c6]
   rw [if_neg c6, decide_eq_true (by omega)]
end Go.Proofs.YtggbhdcgfnjogaaGreatDoor.PlanLaw

