import Derived.Test.YtggbhdcgfnjogaaGreatDoorProg
import Derived.Below
import Derived.Deep.Draws
import Derived.Deep.AppendLies
import Derived.Maps.AppendAt
import Derived.OwnWalk
import Derived.Laws.BytesArg
import Derived.Laws.MakeOwn
import Derived.Laws.OwnMore
import Derived.Deep.OwnRows
import Derived.Tactics
import Derived.Lib.ConvBytes
import Derived.Laws.Slices
import Derived.WalkKit
import Derived.KernelRfl
import Derived.RowKit3
import Derived.Deep.LoopGhost
import Derived.Deep.QuietTactic
import Derived.BigQuiet
import Derived.WideLaws
import Derived.Deep.DeepCutAuto
import Derived.Deep.CutBlock
import Derived.Deep.RegionHeld3
import Derived.Laws.Rows
import Derived.Lib.AppendStr
import Derived.ArgAppend
import Derived.Laws.IdiomCopy
import Derived.OrdersHeld
import Derived.Laws.BitsLemmas
import Derived.RowKit
import Derived.Lib.OthersKept
import Derived.Maps.Own
import Derived.Maps.OwnOps
import Derived.Maps.Views
import Derived.Carry
import Derived.StringKeys
import Derived.Maps.Keyed
import Derived.Test.YtggbhdcgfnjogaaGreatDoorKShelf
import Derived.Lib.Zigzag
import Derived.Lib.SplitLaws
import Derived.Laws.EntriesVeiled
import Derived.Deep.RegionWith
import Derived.Deep.RegionLaw
import Derived.RegionDies
import Derived.Recover
import Derived.Defers
import Derived.Deep.DeepMust
import Derived.Deep.DeepFit
import Derived.Lib.VarintBits
import Derived.Test.YtggbhdcgfnjogaaGreatDoorKWWords
import Derived.Test.YtggbhdcgfnjogaaGreatDoorKWLast
import Derived.Test.YtggbhdcgfnjogaaGreatDoorKWTab
import Derived.Test.YtggbhdcgfnjogaaGreatDoorKWEqStruct
import Derived.Test.YtggbhdcgfnjogaaGreatDoorKWRepsOne
import Derived.Test.YtggbhdcgfnjogaaGreatDoorKWGuard
import Derived.Test.YtggbhdcgfnjogaaGreatDoorKWMore
namespace Go.Proofs.YtggbhdcgfnjogaaGreatDoor.PPc
open Go.RowKit Go.Proofs.YtggbhdcgfnjogaaGreatDoorW.PrintWords Go.Proofs.YtggbhdcgfnjogaaGreatDoorW.PrintLast Go.Proofs.YtggbhdcgfnjogaaGreatDoorW.PrintMore
set_option linter.unusedVariables false
set_option linter.unusedSimpArgs false
def errW : Option Int → Value
 | none => .nilIface
 | some c => .iface 0 (.int .i64 c)
theorem qm : errW none = .nilIface := rfl
theorem qn (c : Int) : errW (some c) = .iface 0 (.int .i64 c) := rfl
theorem info3 : (Tryz.prog.info? 3).map (fun i => (i.zero, i.size, i.bytes)) = some (some (.int .i64 0), 1, 8) := by kernel_rfl
theorem zV : (Tryz.prog.info? 5).map (fun i => (i.zero, i.size, i.bytes)) = some (some (.int .u8 0), 1, 1) := by kernel_rfl
theorem info9 : (Tryz.prog.info? 9).map (fun i => (i.zero, i.size, i.bytes)) = some (some (.string ⟨#[]⟩), 1, 16) := by kernel_rfl
theorem info42 : (Tryz.prog.info? 42).map (fun i => (i.zero, i.size, i.bytes)) = some (some (.agg #[(.int .i64 0), (.int .i64 0), (.string ⟨#[]⟩)]), 3, 32) := by kernel_rfl
theorem info49 : (Tryz.prog.info? 49).map (fun i => (i.zero, i.size, i.bytes)) = some (some (.agg #[(.string ⟨#[]⟩), (.int .i64 0), (.bool false)]), 3, 32) := by kernel_rfl
structure S49 where
 f0 : ByteArray
 f1 : Int
 f2 : Bool
def z49 : S49 := ⟨(⟨#[]⟩ : ByteArray), (0 : Int), false⟩
def k49 : Kd S49 := Kd.iso (Kd.pair Kd.string (Kd.pair (Kd.int .i64) Kd.bool)) (fun x : S49 => (x.f0, x.f1, x.f2))
theorem k49_open {w : World} {x : S49} {cs : List Value} (h : k49.K w x cs) : cs = [.string x.f0, .int .i64 x.f1, .bool x.f2] := by
 obtain ⟨_, _, rfl, rfl, ⟨_, _, rfl, rfl, rfl⟩⟩ := h
 exact rfl
theorem k49_mkM (w : World) (base : Nat) (ok : Nat → Prop) (x : S49)  : k49.M w base ok x [.string x.f0, .int .i64 x.f1, .bool x.f2] := ⟨[.string x.f0], [.int .i64 x.f1, .bool x.f2], rfl, rfl, ⟨[.int .i64 x.f1], [.bool x.f2], rfl, rfl, rfl⟩⟩
def qq (xs : List S49) (i : Int) : S49 := xs.getD i.toNat z49
theorem zQ {w : World} {A : Option Addr} {n : Nat} {xs : List S49} (h : Kd.C k49 w A n xs) (i : Int) (h0 : 0 ≤ i) (h1 : i < n) : ∃ ad , A = some ad ∧ w.cell? (ad.add (i.toNat * 3)) = some (.string (qq xs i).f0) ∧ w.cell? ⟨(ad.add (i.toNat * 3)).block, (ad.add (i.toNat * 3)).off + 1, none⟩ = some (.int .i64 (qq xs i).f1) ∧ w.cell? ⟨(ad.add (i.toNat * 3)).block, (ad.add (i.toNat * 3)).off + 2, none⟩ = some (.bool (qq xs i).f2) := by
 obtain ⟨ad, c, e, _, hK, hc0⟩ := Kd.C_get h z49 i h0 h1;have hc : ∀ j u, c[j]? = some u → w.cell? (ad.add (i.toNat * 3 + j)) = some u := hc0;obtain rfl := k49_open hK
 exact ⟨ad, e, hc 0 _ rfl, by rw [← add_field _ _ 1 (by omega)]; exact hc 1 _ rfl, by rw [← add_field _ _ 2 (by omega)]; exact hc 2 _ rfl⟩
structure S42 where
 f0 : Int
 f1 : Int
 f2 : ByteArray
def z42 : S42 := ⟨(0 : Int), (0 : Int), (⟨#[]⟩ : ByteArray)⟩
def k42 : Kd S42 := Kd.iso (Kd.pair (Kd.int .i64) (Kd.pair (Kd.int .i64) Kd.string)) (fun x : S42 => (x.f0, x.f1, x.f2))
theorem k42_open {w : World} {x : S42} {cs : List Value} (h : k42.K w x cs) : cs = [.int .i64 x.f0, .int .i64 x.f1, .string x.f2] := by
 obtain ⟨_, _, rfl, rfl, ⟨_, _, rfl, rfl, rfl⟩⟩ := h
 exact rfl
theorem k42_mkM (w : World) (base : Nat) (ok : Nat → Prop) (x : S42)  : k42.M w base ok x [.int .i64 x.f0, .int .i64 x.f1, .string x.f2] := ⟨[.int .i64 x.f0], [.int .i64 x.f1, .string x.f2], rfl, rfl, ⟨[.int .i64 x.f1], [.string x.f2], rfl, rfl, rfl⟩⟩
def qJ (xs : List S42) (i : Int) : S42 := xs.getD i.toNat z42
theorem vj {w : World} {A : Option Addr} {n : Nat} {xs : List S42} (h : Kd.C k42 w A n xs) (i : Int) (h0 : 0 ≤ i) (h1 : i < n) : ∃ ad , A = some ad ∧ w.cell? (ad.add (i.toNat * 3)) = some (.int .i64 (qJ xs i).f0) ∧ w.cell? ⟨(ad.add (i.toNat * 3)).block, (ad.add (i.toNat * 3)).off + 1, none⟩ = some (.int .i64 (qJ xs i).f1) ∧ w.cell? ⟨(ad.add (i.toNat * 3)).block, (ad.add (i.toNat * 3)).off + 2, none⟩ = some (.string (qJ xs i).f2) := by
 obtain ⟨ad, c, e, _, hK, hc0⟩ := Kd.C_get h z42 i h0 h1;have hc : ∀ j u, c[j]? = some u → w.cell? (ad.add (i.toNat * 3 + j)) = some u := hc0;obtain rfl := k42_open hK
 exact ⟨ad, e, hc 0 _ rfl, by rw [← add_field _ _ 1 (by omega)]; exact hc 1 _ rfl, by rw [← add_field _ _ 2 (by omega)]; exact hc 2 _ rfl⟩
theorem own_zero {α : Type} (w : World) (base e : Nat) (d : Kd α) (cap : Nat) (hb : base ≤ w.heap.size) (hc : cap ≤ 1000000000000) (cs : Array Value) (hs : cs.size = cap * d.sz) :
 d.R e (w.alloc (.cells cs e)) base (fun _ => True) (.slice (some ⟨w.heap.size, 0, none⟩) 0 cap) [] := by
 refine ⟨fun _ _ => trivial, [], ⟨by simp, .inr ⟨w.heap.size, cap, cs, rfl, hb, heap_alloc_new w _, Nat.zero_le _, by simp only [maxLen]; omega, hs, by simp⟩⟩, ?_⟩
 exact Reps.none _ _
theorem slice_at {a b n c : Nat} (h : a = b) : Value.slice (some ⟨a, 0, none⟩) n c = .slice (some ⟨b, 0, none⟩) n c := by rw [h]
def shapeCells : List Value := [.int .u64 1, .bool false, .int .u64 2, .bool false, .int .u64 0, .bool false, .int .u64 1, .bool true]
structure GL (w : World) : Prop where
 maxlen : ∃ m, w.cell? ⟨1, 0, none⟩ = some (.int .i64 m)
 shape : ∀ (j : Nat) (v : Value), shapeCells[j]? = some v → w.cell? ⟨0, j, none⟩ = some v
theorem GL.below {w w1 : World} (h : GL w) (hb : Below w.heap.size w w1) : GL w1 := ⟨let ⟨m, hm⟩ := h.maxlen; ⟨m, zg hb hm⟩, fun j v hv => zg hb (h.shape j v hv)⟩
def Bs (w0 W : World) (base : Nat) (v : Value) (xs : List Int) : Prop := W.ownsRow base 5 1 v xs.length (nums .u8 xs) ∧ Below base w0 W ∧ base ≤ W.heap.size
theorem Bs.nil {w W : World} (h : Below w.heap.size w W) : Bs w W w.heap.size (.slice none 0 0) [] := ⟨⟨rfl, Or.inl ⟨rfl, rfl⟩⟩, h, h.size⟩
theorem Bs.alloc {w0 W : World} {base : Nat} {v : Value} {xs : List Int} (h : Bs w0 W base v xs) (o : Obj) : Bs w0 (W.alloc o) base v xs := ⟨h.1.alloc o, h.2.1.alloc h.2.2 o, by simp; have := h.2.2; omega⟩
theorem Bs.drew {w0 W : World} {base : Nat} {v : Value} {xs : List Int} (h : Bs w0 W base v xs) : Bs w0 W.drew base v xs := ⟨h.1, zP h.2.1, h.2.2⟩
theorem Bs.below {w0 W w1 : World} {base : Nat} {v : Value} {xs : List Int} (h : Bs w0 W base v xs) (hb : Below W.heap.size W w1) : Bs w0 w1 base v xs := ⟨pw_own_below h.1 hb, vi h.2.1 h.2.2 hb, Nat.le_trans h.2.2 hb.size⟩
def Kept (W w1 : World) : Prop := ∀ (k : Nat) (c : Array Value) (t : TypeId), t ≠ 5 → W.heap[k]? = some (Obj.cells c t (0, 0)) → w1.heap[k]? = some (Obj.cells c t (0, 0))
theorem Kept.of {W w1 : World} {base n : Nat} {v : Value} {xs : List Value} (h : W.ownsRow base 5 1 v n xs) (hg : W.grownBy w1 v.ownBlock) : Kept W w1 := by
 intro k c t ht hk;refine (hg.block k (Array.getElem?_eq_some_iff.1 hk).1 ?_).trans hk;intro e;obtain ⟨cells, hc⟩ := xX h k e.symm;rw [hk] at hc
 injection hc with hc
 injection hc with _ h2
 exact ht h2
section
variable {P : Program} {ops : Array Oper} {rest : List Oper} {o : Oper} {a : Act} {Q : Exit → Act → World → Prop}
theorem Bs.one {w0 W : World} {base : Nat} (hgd : o.guard = none) (s x : Operand) (t : TypeId)
 (ho : o.op = .call { callee := .builtin .append, args := #[s, x], argTypes := #[t, t] }) (ht : P.underlying t = some (.slice 5)) (hinfo : (P.info? 5).map (fun i => (i.zero, i.size, i.bytes)) = some (some (.int .u8 0), 1, 1))
 (v : Value) (xs : List Int) (y : Int) (hs : a.eval s = v) (g : Nat) (hg : g = W.heap.size) (hx : a.eval x = .slice (some ⟨g, 0, none⟩) 1 1) (HB : Bs w0 W base v xs) (hl : xs.length ≤ 1000000000)
 (h : ∀ v1 w1, Bs w0 w1 base v1 (xs ++ [y]) → Kept W w1 → wpList P ops Q rest (a.put o.dst v1) w1) : wpList P ops Q (o :: rest) a (W.alloc (.cells #[.int .u8 y] 5)) := by
 subst hg
 exact print_append_num base hgd s x t 5 .u8 1 ho ht hinfo (by omega) v xs y hs hx HB.1 HB.2.1 HB.2.2 (by omega) (fun v1 w1 h1 h2 h3 _ => h v1 w1 ⟨h1, h2, Nat.le_trans HB.2.2 h3.size⟩ (Kept.of HB.1 h3))
theorem Bs.row {w0 W : World} {base : Nat} (hgd : o.guard = none) (s x : Operand) (t : TypeId)
 (ho : o.op = .call { callee := .builtin .append, args := #[s, x], argTypes := #[t, t] }) (ht : P.underlying t = some (.slice 5)) (hinfo : (P.info? 5).map (fun i => (i.zero, i.size, i.bytes)) = some (some (.int .u8 0), 1, 1))
 (v : Value) (xs ys : List Int) (A : Option Addr) (m c : Nat) (hs : a.eval s = v) (hx : a.eval x = .slice A m c) (HR : xV W .u8 A m ys) (HB : Bs w0 W base v xs) (hl : xs.length + m ≤ 2000000000)
 (h : ∀ v1 w1, Bs w0 w1 base v1 (xs ++ ys) → Kept W w1 → wpList P ops Q rest (a.put o.dst v1) w1) : wpList P ops Q (o :: rest) a W :=
 xW base hgd s x t 5 .u8 1 ho ht hinfo (by omega) v xs ys A m c hs hx HB.1 HR HB.2.1 HB.2.2 (by omega) (fun v1 w1 h1 h2 h3 _ => h v1 w1 ⟨h1, h2, Nat.le_trans HB.2.2 h3.size⟩ (Kept.of HB.1 h3))
theorem Bs.str {w0 W : World} {base : Nat} (hgd : o.guard = none) (s x : Operand) (t u : TypeId)
 (ho : o.op = .call { callee := .builtin .append, args := #[s, x], argTypes := #[t, u] }) (ht : P.underlying t = some (.slice 5)) (hu : P.underlying u = some .string) (hinfo : (P.info? 5).map (fun i => (i.zero, i.size, i.bytes)) = some (some (.int .u8 0), 1, 1))
 (v : Value) (xs : List Int) (y : ByteArray) (hs : a.eval s = v) (hx : a.eval x = .string y) (HB : Bs w0 W base v xs) (hl : xs.length + y.size ≤ 2000000000)
 (h : ∀ v1 w1, Bs w0 w1 base v1 (xs ++ zh y) → Kept W w1 → wpList P ops Q rest (a.put o.dst v1) w1) : wpList P ops Q (o :: rest) a W :=
 print_append_str base hgd s x t u 5 ho ht hu hinfo v xs y hs hx HB.1 HB.2.1 HB.2.2 (by omega) (fun v1 w1 h1 h2 h3 => h v1 w1 ⟨h1, h2, Nat.le_trans HB.2.2 h3.size⟩ (Kept.of HB.1 h3))
end
def codecV (k : Int) : Value :=
 if k = 0 then .agg #[.func (.func 59) #[] #[], .func (.func 60) #[] #[], .func (.func 61) #[] #[]]
 else if k = 1 then .agg #[.func (.func 62) #[] #[], .func (.func 63) #[] #[], .func (.func 64) #[] #[]]
 else if k = 2 then .agg #[.func (.func 66) #[] #[], .func (.func 67) #[] #[], .func (.func 69) #[] #[]]
 else .agg #[.func (.func 71) #[] #[], .func (.func 72) #[] #[], .func (.func 73) #[] #[]]
set_option maxHeartbeats 2000000 in
theorem xP (k : Int) (w : World) : Calls Tryz.prog 55 #[.int .i64 k] w fun e w' => e = .returned (codecV k) ∧ Below w.heap.size w w' := by
 have HB := Aside0.mk (Below.refl w.heap.size w)
 by_cases h0 : k = 0
 · subst h0
   go_enter Tryz.func55, Tryz.ntmps55
   go_wp2;refine bodyPost_ret (results_cell_row rfl _ _ w.heap.size 110 #[.func (.func 59) #[] #[], .func (.func 60) #[] #[], .func (.func 61) #[] #[]] (0, 0) _ rfl (heap_alloc_new w _) Tryz.underlying110 rfl (by kernel_rfl)) rfl ?_
   exact ⟨rfl, qa HB.out _⟩
 by_cases h1 : k = 1
 · subst h1
   go_enter Tryz.func55, Tryz.ntmps55
   go_wp2;refine bodyPost_ret (results_cell_row rfl _ _ w.heap.size 110 #[.func (.func 62) #[] #[], .func (.func 63) #[] #[], .func (.func 64) #[] #[]] (0, 0) _ rfl (heap_alloc_new w _) Tryz.underlying110 rfl (by kernel_rfl)) rfl ?_
   exact ⟨rfl, qa HB.out _⟩
 by_cases h2 : k = 2
 · subst h2
   go_enter Tryz.func55, Tryz.ntmps55
   go_wp2;refine bodyPost_ret (results_cell_row rfl _ _ w.heap.size 110 #[.func (.func 66) #[] #[], .func (.func 67) #[] #[], .func (.func 69) #[] #[]] (0, 0) _ rfl (heap_alloc_new w _) Tryz.underlying110 rfl (by kernel_rfl)) rfl ?_
   exact ⟨rfl, qa HB.out _⟩
 have d0 : decide (k = 0) = false := decide_eq_false h0;have d1 : decide (k = 1) = false := decide_eq_false h1;have d2 : decide (k = 2) = false := decide_eq_false h2
 go_enter Tryz.func55, Tryz.ntmps55
 go_wp2;refine bodyPost_ret (results_cell_row rfl _ _ w.heap.size 110 #[.func (.func 71) #[] #[], .func (.func 72) #[] #[], .func (.func 73) #[] #[]] (0, 0) _ rfl (heap_alloc_new w _) Tryz.underlying110 rfl (by kernel_rfl)) rfl ?_
 exact ⟨by unfold codecV; rw [if_neg h0, if_neg h1, if_neg h2], qa HB.out _⟩
theorem codecs_call0 (w : World) : Calls Tryz.prog 55 #[.int .i64 0] w fun e w' => e = .returned (.agg #[.func (.func 59) #[] #[], .func (.func 60) #[] #[], .func (.func 61) #[] #[]]) ∧ Below w.heap.size w w' := xP 0 w
theorem codecs_call1 (w : World) : Calls Tryz.prog 55 #[.int .i64 1] w fun e w' => e = .returned (.agg #[.func (.func 62) #[] #[], .func (.func 63) #[] #[], .func (.func 64) #[] #[]]) ∧ Below w.heap.size w w' := xP 1 w
theorem codecs_call2 (w : World) : Calls Tryz.prog 55 #[.int .i64 2] w fun e w' => e = .returned (.agg #[.func (.func 66) #[] #[], .func (.func 67) #[] #[], .func (.func 69) #[] #[]]) ∧ Below w.heap.size w w' := xP 2 w
theorem codecs_call3 (w : World) : Calls Tryz.prog 55 #[.int .i64 3] w fun e w' => e = .returned (.agg #[.func (.func 71) #[] #[], .func (.func 72) #[] #[], .func (.func 73) #[] #[]]) ∧ Below w.heap.size w w' := xP 3 w
theorem codec_lay (a b c : Value) (w : World) : (Instr.field 110 (.agg #[a, b, c]) 0).run Tryz.prog w = .ok a w := by kernel_rfl
theorem bits_xor_0 (x : Int) (h0 : 0 ≤ x) (h1 : x < 18446744073709551616) : Go.bits .xor .u64 x 0 = x := by
 rw [u64_xor x 0 h0 h1 (by omega) (by omega)]; simp; omega
theorem bits_xor_1 (x : Int) (h0 : 0 ≤ x) (h1 : x < 18446744073709551616) : Go.bits .xor .u64 x 18446744073709551615 = 18446744073709551615 - x := by
 rw [u64_xor x _ h0 h1 (by omega) (by omega)];have := Lib.xor_ones64 x.toNat (by omega);rw [Nat.xor_comm] at this;simp only [show (18446744073709551615 : Int).toNat = 2 ^ 64 - 1 from rfl, this]
 omega
def xJ (x : S42) : Prop := 0 ≤ x.f0 ∧ x.f0 < 4 ∧ -9223372036854775808 ≤ x.f1 ∧ x.f1 ≤ 9223372036854775807 ∧ x.f2.size ≤ 4096
instance (x : S42) : Decidable (xJ x) := by unfold xJ; infer_instance
def xZ (l : List S42) : Prop := l.length ≤ 16 ∧ ∀ x ∈ l, xJ x
instance (l : List S42) : Decidable (xZ l) := by unfold xZ; infer_instance
theorem goodVals_at {l : List S42} (h : xZ l) (k : Nat) (hk : k < l.length) : xJ (qJ l (k : Int)) := by
 have e : qJ l (k : Int) = l[k] := by simp [qJ, List.getD_eq_getElem?_getD, hk]
 rw [e]
 exact h.2 _ (List.getElem_mem hk)
theorem rd_take {l : List S42} {β : Type} (g : S42 → List β) (k : Nat) (hk : k < l.length) : (l.take (k + 1)).flatMap g = (l.take k).flatMap g ++ g (qJ l (k : Int)) := by
 have e : qJ l (k : Int) = l[k] := by simp [qJ, List.getD_eq_getElem?_getD, hk]
 rw [e, List.take_succ_eq_append_getElem hk, List.flatMap_append]
 simp
theorem flat_len {l : List S42} (g : S42 → List Int) (n : Nat) (h : ∀ x ∈ l, (g x).length ≤ n) : (l.flatMap g).length ≤ l.length * n := by
 induction l with
 | nil => simp
 | cons x l ih =>
  simp only [List.flatMap_cons, List.length_append, List.length_cons, Nat.succ_mul];have := ih (fun y hy => h y (List.mem_cons_of_mem _ hy));have := h x (by simp)
  omega
theorem ze (a b : List Int) : strOfNums a ++ strOfNums b = strOfNums (a ++ b) := by
 apply ByteArray.ext
 simp [strOfNums]
theorem xq (s : ByteArray) : strOfNums (zh s) = s := by
 apply ByteArray.ext
 apply Array.toList_inj.1
 rw [strOfNums_data]
 simp [zh, List.map_map, Function.comp_def]
def Rd (W : World) (rb : Nat) (s : ByteArray) (p : Nat) : Prop := W.heap[rb]? = some (.cells #[.string s, .int .i64 (p : Int)] 60 (0, 0))
def brokenV (why : Int) : List PanicEntry := [{ v := .iface 83 (.agg #[.int .i64 why]), recovered := false }]
theorem Rd.c0 {W : World} {rb : Nat} {s : ByteArray} {p : Nat} (h : Rd W rb s p) : W.cell? ⟨rb, 0, none⟩ = some (.string s) := (qe h 0).trans rfl
theorem Rd.c1 {W : World} {rb : Nat} {s : ByteArray} {p : Nat} (h : Rd W rb s p) : W.cell? ⟨rb, 1, none⟩ = some (.int .i64 (p : Int)) := (qe h 1).trans rfl
theorem grown_set {w W : World} {b : Nat} (h : w.grownBy W (some b)) (i : Nat) (v : Value) : w.grownBy (W.setCell ⟨b, i, none⟩ v) (some b) := by
 refine ⟨h.os, h.tape, h.output, by simpa [World.setCell] using h.size, fun k hk hne => ?_⟩
 have hkb : k ≠ b := fun e => hne (by rw [e])
 exact (heap_setCell_other W ⟨b, i, none⟩ k v hkb).trans (h.block k hk hne)
theorem xh (A : Option Addr) (why : Int) (w : World) : Calls Tryz.prog 20 #[.pointer A, .bool false, .int .i64 why] w fun e w' => e = .returned (.tuple #[]) ∧ w' = w := by
 go_enter Tryz.func20, Tryz.ntmps20
 go_wp2
 go_end0
 exact ⟨rfl, rfl⟩
theorem xG (A : Option Addr) (why : Int) (w : World) : Calls Tryz.prog 20 #[.pointer A, .bool true, .int .i64 why] w fun e w' => e = .panicked (brokenV why) ∧ w' = w := by
 go_enter Tryz.func20, Tryz.ntmps20
 go_wp2
 exact ⟨rfl, rfl, rfl⟩
set_option maxHeartbeats 400000 in
set_option maxRecDepth 2000 in
theorem zw (rb : Nat) (s : ByteArray) (p : Nat) (w : World) (hR : Rd w rb s p) (hp : p < s.size) (hs : s.size ≤ 1000000000) :
 Calls Tryz.prog 34 #[.pointer (some ⟨rb, 0, none⟩)] w fun e w' => e = .returned (.int .u8 (bt s (p : Int))) ∧ Rd w' rb s (p + 1) ∧ w.grownBy w' (some rb) := by
 have h0 := hR.c0;have h1 := hR.c1;have hf := q9 hR 1;have d1 : decide ((s.size : Int) ≤ (p : Int)) = false := decide_eq_false (by omega);have d4 : decide (s.size ≤ p) = false := decide_eq_false (by omega);have d2 : decide ((p : Int) < (s.size : Int)) = true := decide_eq_true (by omega);have d3 : decide (p < s.size) = true := decide_eq_true hp
 have hb : ∀ h : p < s.size, ((s[p]'h).toNat : Int) = bt s (p : Int) := fun h => zH s (p : Int) h
 have HR := Aside0.mk hR;clear hR
 go_enter Tryz.func34, Tryz.ntmps34
 go_wp2_with fail
 go_quiet (first | (go_at_call 20; exact Calls.quiet_of_same (xh _ 11 _)))
 go_wp2;have HR2 : Rd ((w.drewN nq).setCell ⟨rb, 1, none⟩ (.int .i64 ((p : Int) + 1))) rb s (p + 1) := qu (qc HR.out nq) 1 _ (by simp);have HG2 : w.grownBy ((w.drewN nq).setCell ⟨rb, 1, none⟩ (.int .i64 ((p : Int) + 1))) (some rb) := grown_set (zd (q8 (Below.refl _ _) nq) _) _ _;generalize (w.drewN nq).setCell ⟨rb, 1, none⟩ (.int .i64 ((p : Int) + 1)) = W2 at *;have h0 := HR2.c0;have h1 := HR2.c1;rw [show ((p + 1 : Nat) : Int) = (p : Int) + 1 by omega] at h1
 go_quiet (fail)
 go_wp2
 go_ret
 exact ⟨rfl, qc HR2 _, ⟨HG2.os, HG2.tape, HG2.output, HG2.size, HG2.block⟩⟩
theorem next_short (rb : Nat) (s : ByteArray) (p : Nat) (w : World) (hR : Rd w rb s p) (hp : s.size ≤ p) :
 Calls Tryz.prog 34 #[.pointer (some ⟨rb, 0, none⟩)] w fun e w' => e = .panicked (brokenV 11) ∧ w.grownBy w' (some rb) := by
 have h0 := hR.c0;have h1 := hR.c1;have d1 : decide ((s.size : Int) ≤ (p : Int)) = true := decide_eq_true (by omega);clear hR
 go_enter Tryz.func34, Tryz.ntmps34
 go_wp2_with fail
 go_region_dies
 all_goals (refine (xG _ 11 _).mono ?_; rintro e w' ⟨rfl, rfl⟩)
 all_goals exact ⟨rfl, rfl, zd (zP (Below.refl _ _)) _⟩
def valV (x : S42) : Value := .agg #[.int .i64 x.f0, .int .i64 x.f1, .string x.f2]
theorem xf {w W : World} {row : Option Nat} (h : w.grownBy W row) (g : Nat) (hg : w.heap.size ≤ g) (i : Nat) (v : Value) : w.grownBy (W.setCell ⟨g, i, none⟩ v) row := by
 refine ⟨h.os, h.tape, h.output, by simpa [World.setCell] using h.size, fun k hk hne => ?_⟩
 exact (heap_setCell_other W ⟨g, i, none⟩ k v (by show k ≠ g; omega)).trans (h.block k hk hne)
theorem z7 {w W : World} {o : Obj} {row : Option Nat} (h : (w.alloc o).grownBy W row) : w.grownBy W row := (World.grownBy_alloc w o row).trans h
theorem end3 {w w1 : World} {rb g q : Nat} {s : ByteArray} (hg : w.heap.size ≤ g) (hrb : rb < w.heap.size) (HR : Rd w1 rb s q) (HG : w.grownBy w1 (some rb)) {a b c : Value} (a' b' c' : Value) (hh : w1.heap[g]? = some (.cells #[a, b, c] 42 (0, 0))) :
 (((w1.setCell ⟨g, 0, none⟩ a').setCell ⟨g, 1, none⟩ b').setCell ⟨g, 2, none⟩ c').heap[g]? = some (.cells #[a', b', c'] 42 (0, 0))
 ∧ Rd (((w1.setCell ⟨g, 0, none⟩ a').setCell ⟨g, 1, none⟩ b').setCell ⟨g, 2, none⟩ c') rb s q ∧ w.grownBy (((w1.setCell ⟨g, 0, none⟩ a').setCell ⟨g, 1, none⟩ b').setCell ⟨g, 2, none⟩ c') (some rb) := by
 have hne : rb ≠ g := by omega
 refine ⟨qu (qu (qu hh 0 a' rfl) 1 b' rfl) 2 c' rfl, ?_, xf (xf (xf HG g hg _ _) g hg _ _) g hg _ _⟩;unfold Rd;rw [heap_setCell_other _ _ rb _ hne, heap_setCell_other _ _ rb _ hne, heap_setCell_other _ _ rb _ hne]
 exact HR
theorem new3 {w w1 : World} {rb : Nat} {a b c : Value} (hrb : rb < w.heap.size) (hg : (w.alloc (.cells #[a, b, c] 42)).grownBy w1 (some rb)) : w1.heap[w.heap.size]? = some (.cells #[a, b, c] 42 (0, 0)) := (hg.block w.heap.size (by simp) (by simp; omega)).trans (heap_alloc_new w _)
theorem new3c {W : World} {g : Nat} {a b c : Value} (hh : W.heap[g]? = some (.cells #[a, b, c] 42 (0, 0))) : W.cell? ⟨g, 0, none⟩ = some a ∧ W.cell? ⟨g, 1, none⟩ = some b ∧ W.cell? ⟨g, 2, none⟩ = some c ∧ W.frozen? ⟨g, 0, none⟩ = false ∧ W.frozen? ⟨g, 1, none⟩ = false ∧ W.frozen? ⟨g, 2, none⟩ = false :=
 ⟨(qe hh 0).trans rfl, (qe hh 1).trans rfl, (qe hh 2).trans rfl, q9 hh 0, q9 hh 1, q9 hh 2⟩
def Sb (W : World) (sb : Nat) (s : ByteArray) : Prop := W.heap[sb]? = some (.cells #[.string s] 9 (0, 0))
def rdOut (w : World) (rb : Nat) (R : Except Int (List S42)) (e : Ending) (w' : World) : Prop := w.grownBy w' (some rb) ∧ match R with
 | .ok l => ∃ v0, e = .returned v0 ∧ Kd.R k42 42 w' w.heap.size (fun _ => True) v0 l
 | .error why => e = .panicked (brokenV why)
theorem Sb.grown {w w1 : World} {sb rb p : Nat} {s : ByteArray} (h : Sb w sb s) (hR : Rd w rb s p) (hg : w.grownBy w1 (some rb)) : Sb w1 sb s := by
 refine za h hg (fun e => ?_)
 injection e with e
 subst e
 unfold Sb at h; unfold Rd at hR
 rw [h] at hR
 injection hR with hR
 injection hR with _ hR
 exact absurd hR (by decide)
theorem rowV_grown {w w1 : World} {base rb p : Nat} {v : Value} {xs : List S42} {s : ByteArray} (h : Kd.R k42 42 w base (fun _ => True) v xs) (hR : Rd w rb s p) (hg : w.grownBy w1 (some rb)) : Kd.R k42 42 w1 base (fun _ => True) v xs :=
 Kd.R_mono (Kd.R_grown (Kd.R_types h hR (fun q hq => by
  have hq : q ∈ [42] := hq;rw [List.mem_singleton.1 hq]
  decide)) hg (fun k hk e => hk.2 (by injection e))) (fun _ _ => trivial)
theorem grown_then {a b c : World} {row row' : Option Nat} (h : a.grownBy b row) (k : b.grownBy c row') (hr : ∀ j, row' = some j → a.heap.size ≤ j) : a.grownBy c row :=
 ⟨k.os.trans h.os, k.tape.trans h.tape, k.output.trans h.output, Nat.le_trans h.size k.size, fun i hi hne => (k.block i (Nat.lt_of_lt_of_le hi h.size) (fun e => by have := hr i e.symm; omega)).trans (h.block i hi hne)⟩
def Bt (w W : World) (rb : Nat) (v : Value) (xs : List Int) : Prop := W.ownsRow w.heap.size 5 1 v xs.length (nums .u8 xs) ∧ w.grownBy W (some rb)
theorem Bt.alloc {w W : World} {rb : Nat} {v : Value} {xs : List Int} (h : Bt w W rb v xs) (o : Obj) : Bt w (W.alloc o) rb v xs := ⟨h.1.alloc o, h.2.trans (World.grownBy_alloc W o _)⟩
theorem Bt.grownR {w W w1 : World} {rb p : Nat} {v : Value} {xs : List Int} {s : ByteArray} (h : Bt w W rb v xs) (hR : Rd W rb s p) (hg : W.grownBy w1 (some rb)) : Bt w w1 rb v xs := by
 refine ⟨h.1.kept hg (.inr fun e => ?_), h.2.trans hg⟩;obtain ⟨cells, hc⟩ := xX h.1 rb e;unfold Rd at hR;rw [hc] at hR
 injection hR with hR
 injection hR with _ hR
 exact absurd hR (by decide)
section
variable {P : Program} {ops : Array Oper} {rest : List Oper} {o : Oper} {a : Act} {Q : Exit → Act → World → Prop}
theorem Bt.row {w W : World} {rb : Nat} (hgd : o.guard = none) (s x : Operand) (t : TypeId)
 (ho : o.op = .call { callee := .builtin .append, args := #[s, x], argTypes := #[t, t] }) (ht : P.underlying t = some (.slice 5)) (hinfo : (P.info? 5).map (fun i => (i.zero, i.size, i.bytes)) = some (some (.int .u8 0), 1, 1))
 (v : Value) (xs ys : List Int) (A : Option Addr) (m c : Nat) (hs : a.eval s = v) (hx : a.eval x = .slice A m c) (HR : xV W .u8 A m ys) (HB : Bt w W rb v xs) (hl : xs.length + m ≤ 2000000000)
 (h : ∀ v1 w1, Bt w w1 rb v1 (xs ++ ys) → Kept W w1 → wpList P ops Q rest (a.put o.dst v1) w1) : wpList P ops Q (o :: rest) a W :=
 xW (w0 := W) w.heap.size hgd s x t 5 .u8 1 ho ht hinfo (by omega) v xs ys A m c hs hx HB.1 HR (Below.refl _ _) HB.2.size (by omega) (fun v1 w1 h1 h2 h3 _ => h v1 w1 ⟨h1, grown_then HB.2 h3 (fun j hj => xi HB.1 j hj)⟩ (Kept.of HB.1 h3))
end
theorem Rd.kept {W w1 : World} {rb p : Nat} {s : ByteArray} (h : Rd W rb s p) (hk : Kept W w1) : Rd w1 rb s p := hk rb _ _ (by decide) h
theorem Kept.alloc {W w1 : World} {o : Obj} (h : Kept (W.alloc o) w1) : Kept W w1 := fun k c t ht hk => h k c t ht (qb hk o)
theorem catch_idle (p q : Addr) (w : World) :
 CallsD Tryz.prog 33 #[.pointer (some p), .pointer (some q)] .returning w fun e u' w' => e = .returned (.tuple #[]) ∧ u' = .returning ∧ w' = w := by
 refine callsD_of_wpS Tryz.func33 rfl fun c₀ cs hu => ?_
 apply wpS_seq
 apply wpS_region
 simp [wpOpsS, go_sem, recoverD, hu, Tryz.ntmps33, Exit.thenS]
 refine wpS_of_wp ?_;change Code.wp _ _ _ { tmps := #[.pointer (some p), .pointer (some q), .nilIface, undef, undef, .nilIface, undef, undef, undef, undef, undef, undef, undef, undef, undef, undef, undef], defers := [] } _;go_wp2;refine ⟨rfl, .returning, ?_, _, results_none rfl _ _ _, rfl, rfl, rfl⟩
 cases c₀
 simp_all
set_option maxRecDepth 100000 in
set_option maxHeartbeats 1000000 in
theorem catch_broken (g h : Nat) (vp : Value) (q0 why : Int) (w : World) (hP : w.heap[g]? = some (.cells #[vp] 36 (0, 0))) (hQ : w.heap[h]? = some (.cells #[.int .i64 q0] 28 (0, 0))) (hne : ¬ g = h) :
 CallsD Tryz.prog 33 #[.pointer (some ⟨g, 0, none⟩), .pointer (some ⟨h, 0, none⟩)] (.panicking [{ v := .iface 83 (.agg #[.int .i64 why]), recovered := false }]) w fun e u' w' =>
  e = .returned (.tuple #[]) ∧ u' = .panicking [{ v := .iface 83 (.agg #[.int .i64 why]), recovered := true }] ∧ w' = (((w.setCell ⟨g, 0, none⟩ (.slice none 0 0)).setCell ⟨h, 0, none⟩ (.int .i64 why)).alloc (.cells #[.int .i64 why] 83)).drew := by
 have hta : ∀ W, (Instr.typeAssert (.iface 83 (.agg #[.int .i64 why])) 20 83 true).run Tryz.prog W = .ok (.tuple #[.agg #[.int .i64 why], .bool true]) W := fun _ => by kernel_rfl
 have hg := qK hP;have hh := qK hQ;have c0 := (qe hP 0).trans rfl;have f0 := q9 hP 0;have c1 := (qe hQ 0).trans rfl;have f1 := q9 hQ 0
 have hne2 : ¬ h = g := fun e => hne e.symm
 refine callsD_of_wpS Tryz.func33 rfl fun c₀ cs hu => ?_
 apply wpS_seq
 apply wpS_region
 simp [wpOpsS, go_sem, recoverD, hu, Tryz.ntmps33, Exit.thenS]
 refine wpS_of_wp ?_;change Code.wp _ _ _ { tmps := #[.pointer (some ⟨g, 0, none⟩), .pointer (some ⟨h, 0, none⟩), .iface 83 (.agg #[.int .i64 why]), undef, undef, .iface 83 (.agg #[.int .i64 why]), undef, undef, undef, undef, undef, undef, undef, undef, undef, undef, undef], defers := [] } _
 go_wp2_with fail
 go_region
 go_wp2;refine ⟨rfl, .panicking [{ v := .iface 83 (.agg #[.int .i64 why]), recovered := true }], ?_, _, results_none rfl _ _ _, rfl, rfl, rfl⟩
 cases c₀
 simp_all
theorem Sb.alloc {W : World} {sb : Nat} {s : ByteArray} (h : Sb W sb s) (o : Obj) : Sb (W.alloc o) sb s := qb h o
def rdL (R : Except Int (List S42)) : List S42 := match R with | .ok l => l | .error _ => []
def rdE (R : Except Int (List S42)) : Int := match R with | .ok _ => 0 | .error why => why
end Go.Proofs.YtggbhdcgfnjogaaGreatDoor.PPc

