import Derived.Test.YtggbhdcgfnjogaaDoorProg
import Derived.Below
import Derived.Deep.Draws
import Derived.Deep.AppendLies
import Derived.Maps.AppendAt
import Derived.OwnWalk
import Derived.Laws.BytesArg
import Derived.Laws.MakeOwn
import Derived.Laws.OwnMore
import Derived.Deep.OwnRows
import Derived.Tactics
import Derived.Lib.ConvBytes
import Derived.Laws.Slices
import Derived.WalkKit
import Derived.KernelRfl
import Derived.RowKit3
import Derived.Deep.LoopGhost
import Derived.Deep.QuietTactic
import Derived.BigQuiet
import Derived.WideLaws
import Derived.Deep.DeepCutAuto
import Derived.Deep.CutBlock
import Derived.Deep.RegionHeld3
import Derived.Laws.Rows
import Derived.Lib.AppendStr
import Derived.ArgAppend
import Derived.Laws.IdiomCopy
import Derived.OrdersHeld
import Derived.Laws.BitsLemmas
import Derived.RowKit
import Derived.Lib.OthersKept
import Derived.Maps.Own
import Derived.Maps.OwnOps
import Derived.Maps.Views
import Derived.Carry
import Derived.StringKeys
import Derived.Maps.Keyed
import Derived.Test.YtggbhdcgfnjogaaDoorTShelf
import Derived.Lib.Zigzag
import Derived.Lib.SplitLaws
import Derived.Laws.EntriesVeiled
import Derived.Deep.RegionWith
import Derived.Deep.RegionLaw
import Derived.RegionDies
import Derived.Recover
import Derived.Defers
import Derived.Deep.DeepMust
import Derived.Deep.DeepFit
import Derived.Lib.VarintBits
import Derived.Test.YtggbhdcgfnjogaaDoorTWWords
import Derived.Test.YtggbhdcgfnjogaaDoorTWLast
import Derived.Test.YtggbhdcgfnjogaaDoorTWTab
import Derived.Test.YtggbhdcgfnjogaaDoorTWEqStruct
import Derived.Test.YtggbhdcgfnjogaaDoorTWRepsOne
import Derived.Test.YtggbhdcgfnjogaaDoorTWGuard
import Derived.Test.YtggbhdcgfnjogaaDoorTWMore
namespace Go.Proofs.YtggbhdcgfnjogaaDoor.PPl
open Go.RowKit Go.Proofs.YtggbhdcgfnjogaaDoorW.PrintWords Go.Proofs.YtggbhdcgfnjogaaDoorW.PrintLast Go.Proofs.YtggbhdcgfnjogaaDoorW.PrintMore
set_option linter.unusedVariables false
set_option linter.unusedSimpArgs false
def errW : Option Int → Value
 | none => .nilIface
 | some c => .iface 0 (.int .i64 c)
theorem errW_none : errW none = .nilIface := rfl
theorem errW_some (c : Int) : errW (some c) = .iface 0 (.int .i64 c) := rfl
theorem info5 : (Tryd.prog.info? 5).map (fun i => (i.zero, i.size, i.bytes)) = some (some (.int .u8 0), 1, 1) := by kernel_rfl
theorem info9 : (Tryd.prog.info? 9).map (fun i => (i.zero, i.size, i.bytes)) = some (some (.string ⟨#[]⟩), 1, 16) := by kernel_rfl
theorem info84 : (Tryd.prog.info? 84).map (fun i => (i.zero, i.size, i.bytes)) = some (some (.agg #[(.int .i64 0), (.int .i64 0), (.string ⟨#[]⟩)]), 3, 32) := by kernel_rfl
structure S87 where
 f0 : ByteArray
 f1 : Int
 f2 : Bool
def z87 : S87 := ⟨(⟨#[]⟩ : ByteArray), (0 : Int), false⟩
def k87 : Kd S87 := Kd.iso (Kd.pair Kd.string (Kd.pair (Kd.int .i64) Kd.bool)) (fun x : S87 => (x.f0, x.f1, x.f2))
theorem k87_open {w : World} {x : S87} {cs : List Value} (h : k87.K w x cs) : cs = [.string x.f0, .int .i64 x.f1, .bool x.f2] := by
 obtain ⟨_, _, rfl, rfl, ⟨_, _, rfl, rfl, rfl⟩⟩ := h
 exact rfl
theorem k87_mk (w : World) (x : S87)  : k87.K w x [.string x.f0, .int .i64 x.f1, .bool x.f2] := ⟨[.string x.f0], [.int .i64 x.f1, .bool x.f2], rfl, rfl, ⟨[.int .i64 x.f1], [.bool x.f2], rfl, rfl, rfl⟩⟩
def rd_T87 (xs : List S87) (i : Int) : S87 := xs.getD i.toNat z87
theorem at_T87 {w : World} {A : Option Addr} {n : Nat} {xs : List S87} (h : Kd.C k87 w A n xs) (i : Int) (h0 : 0 ≤ i) (h1 : i < n) : ∃ ad , A = some ad ∧ w.cell? (ad.add (i.toNat * 3)) = some (.string (rd_T87 xs i).f0) ∧ w.cell? ⟨(ad.add (i.toNat * 3)).block, (ad.add (i.toNat * 3)).off + 1, none⟩ = some (.int .i64 (rd_T87 xs i).f1) ∧ w.cell? ⟨(ad.add (i.toNat * 3)).block, (ad.add (i.toNat * 3)).off + 2, none⟩ = some (.bool (rd_T87 xs i).f2) := by
 obtain ⟨ad, c, e, _, hK, hc0⟩ := Kd.C_get h z87 i h0 h1
 have hc : ∀ j u, c[j]? = some u → w.cell? (ad.add (i.toNat * 3 + j)) = some u := hc0
 obtain rfl := k87_open hK
 exact ⟨ad, e, hc 0 _ rfl, by rw [← add_field _ _ 1 (by omega)]; exact hc 1 _ rfl, by rw [← add_field _ _ 2 (by omega)]; exact hc 2 _ rfl⟩
structure S84 where
 f0 : Int
 f1 : Int
 f2 : ByteArray
def z84 : S84 := ⟨(0 : Int), (0 : Int), (⟨#[]⟩ : ByteArray)⟩
def k84 : Kd S84 := Kd.iso (Kd.pair (Kd.int .i64) (Kd.pair (Kd.int .i64) Kd.string)) (fun x : S84 => (x.f0, x.f1, x.f2))
theorem k84_open {w : World} {x : S84} {cs : List Value} (h : k84.K w x cs) : cs = [.int .i64 x.f0, .int .i64 x.f1, .string x.f2] := by
 obtain ⟨_, _, rfl, rfl, ⟨_, _, rfl, rfl, rfl⟩⟩ := h
 exact rfl
theorem k84_mkM (w : World) (base : Nat) (ok : Nat → Prop) (x : S84)  : k84.M w base ok x [.int .i64 x.f0, .int .i64 x.f1, .string x.f2] := ⟨[.int .i64 x.f0], [.int .i64 x.f1, .string x.f2], rfl, rfl, ⟨[.int .i64 x.f1], [.string x.f2], rfl, rfl, rfl⟩⟩
def rd_T84 (xs : List S84) (i : Int) : S84 := xs.getD i.toNat z84
theorem at_T84 {w : World} {A : Option Addr} {n : Nat} {xs : List S84} (h : Kd.C k84 w A n xs) (i : Int) (h0 : 0 ≤ i) (h1 : i < n) : ∃ ad , A = some ad ∧ w.cell? (ad.add (i.toNat * 3)) = some (.int .i64 (rd_T84 xs i).f0) ∧ w.cell? ⟨(ad.add (i.toNat * 3)).block, (ad.add (i.toNat * 3)).off + 1, none⟩ = some (.int .i64 (rd_T84 xs i).f1) ∧ w.cell? ⟨(ad.add (i.toNat * 3)).block, (ad.add (i.toNat * 3)).off + 2, none⟩ = some (.string (rd_T84 xs i).f2) := by
 obtain ⟨ad, c, e, _, hK, hc0⟩ := Kd.C_get h z84 i h0 h1
 have hc : ∀ j u, c[j]? = some u → w.cell? (ad.add (i.toNat * 3 + j)) = some u := hc0
 obtain rfl := k84_open hK
 exact ⟨ad, e, hc 0 _ rfl, by rw [← add_field _ _ 1 (by omega)]; exact hc 1 _ rfl, by rw [← add_field _ _ 2 (by omega)]; exact hc 2 _ rfl⟩
theorem own_zero {α : Type} (w : World) (base e : Nat) (d : Kd α) (cap : Nat) (hb : base ≤ w.heap.size) (hc : cap ≤ 1000000000000) (cs : Array Value) (hs : cs.size = cap * d.sz) :
 d.R e (w.alloc (.cells cs e)) base (fun _ => True) (.slice (some ⟨w.heap.size, 0, none⟩) 0 cap) [] := by
 refine ⟨fun _ _ => trivial, [], ⟨by simp, .inr ⟨w.heap.size, cap, cs, rfl, hb, heap_alloc_new w _, Nat.zero_le _, by simp only [maxLen]; omega, hs, by simp⟩⟩, ?_⟩
 exact Reps.none _ _
theorem slice_at {a b n c : Nat} (h : a = b) : Value.slice (some ⟨a, 0, none⟩) n c = .slice (some ⟨b, 0, none⟩) n c := by rw [h]
def shapeCells : List Value := [.int .u64 1, .bool false, .int .u64 2, .bool false, .int .u64 0, .bool false, .int .u64 1, .bool true]
structure GL (w : World) : Prop where
 maxlen : ∃ m, w.cell? ⟨5, 0, none⟩ = some (.int .i64 m)
 shape : ∀ (j : Nat) (v : Value), shapeCells[j]? = some v → w.cell? ⟨1, j, none⟩ = some v
theorem GL.below {w w1 : World} (h : GL w) (hb : Below w.heap.size w w1) : GL w1 := ⟨let ⟨m, hm⟩ := h.maxlen; ⟨m, pw_cell_below hb hm⟩, fun j v hv => pw_cell_below hb (h.shape j v hv)⟩
def Bs (w0 W : World) (base : Nat) (v : Value) (xs : List Int) : Prop := W.ownsRow base 5 1 v xs.length (nums .u8 xs) ∧ Below base w0 W ∧ base ≤ W.heap.size
theorem Bs.nil {w W : World} (h : Below w.heap.size w W) : Bs w W w.heap.size (.slice none 0 0) [] := ⟨⟨rfl, Or.inl ⟨rfl, rfl⟩⟩, h, h.size⟩
theorem Bs.alloc {w0 W : World} {base : Nat} {v : Value} {xs : List Int} (h : Bs w0 W base v xs) (o : Obj) : Bs w0 (W.alloc o) base v xs := ⟨h.1.alloc o, h.2.1.alloc h.2.2 o, by simp; have := h.2.2; omega⟩
theorem Bs.drew {w0 W : World} {base : Nat} {v : Value} {xs : List Int} (h : Bs w0 W base v xs) : Bs w0 W.drew base v xs := ⟨h.1, below_drew h.2.1, h.2.2⟩
theorem Bs.below {w0 W w1 : World} {base : Nat} {v : Value} {xs : List Int} (h : Bs w0 W base v xs) (hb : Below W.heap.size W w1) : Bs w0 w1 base v xs := ⟨pw_own_below h.1 hb, below_then h.2.1 h.2.2 hb, Nat.le_trans h.2.2 hb.size⟩
def Kept (W w1 : World) : Prop := ∀ (k : Nat) (c : Array Value) (t : TypeId), t ≠ 5 → W.heap[k]? = some (Obj.cells c t (0, 0)) → w1.heap[k]? = some (Obj.cells c t (0, 0))
theorem Kept.of {W w1 : World} {base n : Nat} {v : Value} {xs : List Value} (h : W.ownsRow base 5 1 v n xs) (hg : W.grownBy w1 v.ownBlock) : Kept W w1 := by
 intro k c t ht hk
 refine (hg.block k (Array.getElem?_eq_some_iff.1 hk).1 ?_).trans hk
 intro e
 obtain ⟨cells, hc⟩ := own_typed h k e.symm
 rw [hk] at hc
 injection hc with hc
 injection hc with _ h2
 exact ht h2
section
variable {P : Program} {ops : Array Oper} {rest : List Oper} {o : Oper} {a : Act} {Q : Exit → Act → World → Prop}
theorem Bs.one {w0 W : World} {base : Nat} (hgd : o.guard = none) (s x : Operand) (t : TypeId)
 (ho : o.op = .call { callee := .builtin .append, args := #[s, x], argTypes := #[t, t] }) (ht : P.underlying t = some (.slice 5)) (hinfo : (P.info? 5).map (fun i => (i.zero, i.size, i.bytes)) = some (some (.int .u8 0), 1, 1))
 (v : Value) (xs : List Int) (y : Int) (hs : a.eval s = v) (g : Nat) (hg : g = W.heap.size) (hx : a.eval x = .slice (some ⟨g, 0, none⟩) 1 1) (HB : Bs w0 W base v xs) (hl : xs.length ≤ 1000000000)
 (h : ∀ v1 w1, Bs w0 w1 base v1 (xs ++ [y]) → Kept W w1 → wpList P ops Q rest (a.put o.dst v1) w1) : wpList P ops Q (o :: rest) a (W.alloc (.cells #[.int .u8 y] 5)) := by
 subst hg
 exact print_append_num base hgd s x t 5 .u8 1 ho ht hinfo (by omega) v xs y hs hx HB.1 HB.2.1 HB.2.2 (by omega) (fun v1 w1 h1 h2 h3 _ => h v1 w1 ⟨h1, h2, Nat.le_trans HB.2.2 h3.size⟩ (Kept.of HB.1 h3))
theorem Bs.row {w0 W : World} {base : Nat} (hgd : o.guard = none) (s x : Operand) (t : TypeId)
 (ho : o.op = .call { callee := .builtin .append, args := #[s, x], argTypes := #[t, t] }) (ht : P.underlying t = some (.slice 5)) (hinfo : (P.info? 5).map (fun i => (i.zero, i.size, i.bytes)) = some (some (.int .u8 0), 1, 1))
 (v : Value) (xs ys : List Int) (A : Option Addr) (m c : Nat) (hs : a.eval s = v) (hx : a.eval x = .slice A m c) (HR : ReadsInt W .u8 A m ys) (HB : Bs w0 W base v xs) (hl : xs.length + m ≤ 2000000000)
 (h : ∀ v1 w1, Bs w0 w1 base v1 (xs ++ ys) → Kept W w1 → wpList P ops Q rest (a.put o.dst v1) w1) : wpList P ops Q (o :: rest) a W :=
 print_append_row base hgd s x t 5 .u8 1 ho ht hinfo (by omega) v xs ys A m c hs hx HB.1 HR HB.2.1 HB.2.2 (by omega) (fun v1 w1 h1 h2 h3 _ => h v1 w1 ⟨h1, h2, Nat.le_trans HB.2.2 h3.size⟩ (Kept.of HB.1 h3))
theorem Bs.str {w0 W : World} {base : Nat} (hgd : o.guard = none) (s x : Operand) (t u : TypeId)
 (ho : o.op = .call { callee := .builtin .append, args := #[s, x], argTypes := #[t, u] }) (ht : P.underlying t = some (.slice 5)) (hu : P.underlying u = some .string) (hinfo : (P.info? 5).map (fun i => (i.zero, i.size, i.bytes)) = some (some (.int .u8 0), 1, 1))
 (v : Value) (xs : List Int) (y : ByteArray) (hs : a.eval s = v) (hx : a.eval x = .string y) (HB : Bs w0 W base v xs) (hl : xs.length + y.size ≤ 2000000000)
 (h : ∀ v1 w1, Bs w0 w1 base v1 (xs ++ bytesOf y) → Kept W w1 → wpList P ops Q rest (a.put o.dst v1) w1) : wpList P ops Q (o :: rest) a W :=
 print_append_str base hgd s x t u 5 ho ht hu hinfo v xs y hs hx HB.1 HB.2.1 HB.2.2 (by omega) (fun v1 w1 h1 h2 h3 => h v1 w1 ⟨h1, h2, Nat.le_trans HB.2.2 h3.size⟩ (Kept.of HB.1 h3))
end
def codecV (k : Int) : Value :=
 if k = 0 then .agg #[.func (.func 97) #[] #[], .func (.func 98) #[] #[], .func (.func 99) #[] #[]]
 else if k = 1 then .agg #[.func (.func 100) #[] #[], .func (.func 101) #[] #[], .func (.func 102) #[] #[]]
 else if k = 2 then .agg #[.func (.func 104) #[] #[], .func (.func 105) #[] #[], .func (.func 107) #[] #[]]
 else .agg #[.func (.func 109) #[] #[], .func (.func 110) #[] #[], .func (.func 111) #[] #[]]
set_option maxHeartbeats 2000000 in
theorem codecs_call (k : Int) (w : World) : Calls Tryd.prog 73 #[.int .i64 k] w fun e w' => e = .returned (codecV k) ∧ Below w.heap.size w w' := by
 have HB := Aside0.mk (Below.refl w.heap.size w)
 by_cases h0 : k = 0
 · subst h0
   go_enter Tryd.func73, Tryd.ntmps73
   go_wp2
   refine bodyPost_ret (results_cell_row rfl _ _ w.heap.size 120 #[.func (.func 97) #[] #[], .func (.func 98) #[] #[], .func (.func 99) #[] #[]] (0, 0) _ rfl (heap_alloc_new w _) Tryd.underlying120 rfl (by kernel_rfl)) rfl ?_
   exact ⟨rfl, below_alloc HB.out _⟩
 by_cases h1 : k = 1
 · subst h1
   go_enter Tryd.func73, Tryd.ntmps73
   go_wp2
   refine bodyPost_ret (results_cell_row rfl _ _ w.heap.size 120 #[.func (.func 100) #[] #[], .func (.func 101) #[] #[], .func (.func 102) #[] #[]] (0, 0) _ rfl (heap_alloc_new w _) Tryd.underlying120 rfl (by kernel_rfl)) rfl ?_
   exact ⟨rfl, below_alloc HB.out _⟩
 by_cases h2 : k = 2
 · subst h2
   go_enter Tryd.func73, Tryd.ntmps73
   go_wp2
   refine bodyPost_ret (results_cell_row rfl _ _ w.heap.size 120 #[.func (.func 104) #[] #[], .func (.func 105) #[] #[], .func (.func 107) #[] #[]] (0, 0) _ rfl (heap_alloc_new w _) Tryd.underlying120 rfl (by kernel_rfl)) rfl ?_
   exact ⟨rfl, below_alloc HB.out _⟩
 have d0 : decide (k = 0) = false := decide_eq_false h0
 have d1 : decide (k = 1) = false := decide_eq_false h1
 have d2 : decide (k = 2) = false := decide_eq_false h2
 go_enter Tryd.func73, Tryd.ntmps73
 go_wp2
 refine bodyPost_ret (results_cell_row rfl _ _ w.heap.size 120 #[.func (.func 109) #[] #[], .func (.func 110) #[] #[], .func (.func 111) #[] #[]] (0, 0) _ rfl (heap_alloc_new w _) Tryd.underlying120 rfl (by kernel_rfl)) rfl ?_
 exact ⟨by unfold codecV; rw [if_neg h0, if_neg h1, if_neg h2], below_alloc HB.out _⟩
theorem codecs_call0 (w : World) : Calls Tryd.prog 73 #[.int .i64 0] w fun e w' => e = .returned (.agg #[.func (.func 97) #[] #[], .func (.func 98) #[] #[], .func (.func 99) #[] #[]]) ∧ Below w.heap.size w w' := codecs_call 0 w
theorem codecs_call1 (w : World) : Calls Tryd.prog 73 #[.int .i64 1] w fun e w' => e = .returned (.agg #[.func (.func 100) #[] #[], .func (.func 101) #[] #[], .func (.func 102) #[] #[]]) ∧ Below w.heap.size w w' := codecs_call 1 w
theorem codecs_call2 (w : World) : Calls Tryd.prog 73 #[.int .i64 2] w fun e w' => e = .returned (.agg #[.func (.func 104) #[] #[], .func (.func 105) #[] #[], .func (.func 107) #[] #[]]) ∧ Below w.heap.size w w' := codecs_call 2 w
theorem codecs_call3 (w : World) : Calls Tryd.prog 73 #[.int .i64 3] w fun e w' => e = .returned (.agg #[.func (.func 109) #[] #[], .func (.func 110) #[] #[], .func (.func 111) #[] #[]]) ∧ Below w.heap.size w w' := codecs_call 3 w
theorem codec_lay (a b c : Value) (w : World) : (Instr.field 120 (.agg #[a, b, c]) 0).run Tryd.prog w = .ok a w := by kernel_rfl
theorem bits_xor_0 (x : Int) (h0 : 0 ≤ x) (h1 : x < 18446744073709551616) : Go.bits .xor .u64 x 0 = x := by
 rw [u64_xor x 0 h0 h1 (by omega) (by omega)]; simp; omega
theorem bits_xor_1 (x : Int) (h0 : 0 ≤ x) (h1 : x < 18446744073709551616) : Go.bits .xor .u64 x 18446744073709551615 = 18446744073709551615 - x := by
 rw [u64_xor x _ h0 h1 (by omega) (by omega)]
 have := Lib.xor_ones64 x.toNat (by omega)
 rw [Nat.xor_comm] at this
 simp only [show (18446744073709551615 : Int).toNat = 2 ^ 64 - 1 from rfl, this]
 omega
def goodVal (x : S84) : Prop := 0 ≤ x.f0 ∧ x.f0 < 4 ∧ -9223372036854775808 ≤ x.f1 ∧ x.f1 ≤ 9223372036854775807 ∧ x.f2.size ≤ 4096
instance (x : S84) : Decidable (goodVal x) := by unfold goodVal; infer_instance
def goodVals (l : List S84) : Prop := l.length ≤ 16 ∧ ∀ x ∈ l, goodVal x
instance (l : List S84) : Decidable (goodVals l) := by unfold goodVals; infer_instance
theorem goodVals_at {l : List S84} (h : goodVals l) (k : Nat) (hk : k < l.length) : goodVal (rd_T84 l (k : Int)) := by
 have e : rd_T84 l (k : Int) = l[k] := by simp [rd_T84, List.getD_eq_getElem?_getD, hk]
 rw [e]
 exact h.2 _ (List.getElem_mem hk)
theorem rd_take {l : List S84} {β : Type} (g : S84 → List β) (k : Nat) (hk : k < l.length) : (l.take (k + 1)).flatMap g = (l.take k).flatMap g ++ g (rd_T84 l (k : Int)) := by
 have e : rd_T84 l (k : Int) = l[k] := by simp [rd_T84, List.getD_eq_getElem?_getD, hk]
 rw [e, List.take_succ_eq_append_getElem hk, List.flatMap_append]
 simp
theorem flat_len {l : List S84} (g : S84 → List Int) (n : Nat) (h : ∀ x ∈ l, (g x).length ≤ n) : (l.flatMap g).length ≤ l.length * n := by
 induction l with
 | nil => simp
 | cons x l ih =>
  simp only [List.flatMap_cons, List.length_append, List.length_cons, Nat.succ_mul]
  have := ih (fun y hy => h y (List.mem_cons_of_mem _ hy))
  have := h x (by simp)
  omega
end Go.Proofs.YtggbhdcgfnjogaaDoor.PPl

