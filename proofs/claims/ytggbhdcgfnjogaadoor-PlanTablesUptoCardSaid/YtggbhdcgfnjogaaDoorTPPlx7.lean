import Derived.Test.YtggbhdcgfnjogaaDoorTPPlx0
import Derived.Test.YtggbhdcgfnjogaaDoorTPPlx6
namespace Go.Proofs.YtggbhdcgfnjogaaDoor.PPl
open Go.RowKit Go.Proofs.YtggbhdcgfnjogaaDoorW.PrintWords Go.Proofs.YtggbhdcgfnjogaaDoorW.PrintLast Go.Proofs.YtggbhdcgfnjogaaDoorW.PrintMore
set_option linter.unusedVariables false
set_option linter.unusedSimpArgs false
def plan_integer.f (a0 : Int) : Option (Int × Int × ByteArray) := some (2, a0, (⟨#[]⟩ : ByteArray))
set_option maxHeartbeats 8000000 in
set_option maxRecDepth 100000 in
theorem plan_integer.calls (a0 : Int) (r1 : Int) (r2 : Int) (r3 : ByteArray) (w : World) (h : plan_integer.f a0 = some (r1, r2, r3)) :
 Calls Tryd.prog 35 #[.int .i64 a0] w fun e w' => e = .returned (.agg #[.int .i64 r1, .int .i64 r2, .string r3]) ∧ Below w.heap.size w w' := by
 have hu84 := Tryd.underlying84
 have HB := Aside0.mk (Below.refl w.heap.size w)
 have H : (some (2, a0, (⟨#[]⟩ : ByteArray))) = some (r1, r2, r3) := h
 clear h
 simp only [Option.some.injEq, Prod.mk.injEq] at H
 obtain ⟨rfl, rfl, rfl⟩ := H
 go_enter Tryd.func35, Tryd.ntmps35
 go_wp2_with (first | ((with_reducible refine gate_dst (N := 2) rfl ?_); refine box_event ?hg (N := 2) ?hd (cs := #[.int .i64 0, .int .i64 0, .string (⟨#[]⟩ : ByteArray)]) (t := 84) ?hr ?_; (case hd => rfl); (case hg => rfl); (case hr => first | (go_simp; done) | (go_simp; rfl)); intro gb124 hg w2 hbox hb; have n0_ := Aside0.mk (below_step (by repeat (first | (with_reducible first | exact HB.out | apply below_alloc | apply pw_below_drewN | apply below_drew1) | exact HB.out)) hb); have n1_ := Aside0.mk (hbox); have n2_ := Aside0.mk ((by rw [hg]; exact (below_size (by repeat (first | (with_reducible first | exact HB.out | apply below_alloc | apply pw_below_drewN | apply below_drew1) | exact HB.out))) : w.heap.size ≤ gb124)); have n3_ := Aside0.mk ((by rw [hg]; exact (below_size (by repeat (first | (with_reducible first | exact HB.out | apply below_alloc | apply pw_below_drewN | apply below_drew1) | exact HB.out))) : w.heap.size ≤ gb124)); clear HB; have HB := n0_; have BK124 := n1_; have GW124 := n2_; have GE124 := n3_; clear n0_ n1_ n2_ n3_; clear hb hbox hg; have hcz3_0 : w2.cell? ⟨gb124, 0, none⟩ = some (.int .i64 0) := (blk_cell BK124.out 0).trans rfl; have hcz3_1 : w2.cell? ⟨gb124, 1, none⟩ = some (.int .i64 0) := (blk_cell BK124.out 1).trans rfl; have hcz3_2 : w2.cell? ⟨gb124, 2, none⟩ = some (.string (⟨#[]⟩ : ByteArray)) := (blk_cell BK124.out 2).trans rfl; have hfz3_0 := blk_frozen BK124.out 0; have hfz3_1 := blk_frozen BK124.out 1; have hfz3_2 := blk_frozen BK124.out 2))
 refine bodyPost_ret (results_cell_row rfl _ _ gb124 84 #[.int .i64 2, .int .i64 a0, .string (⟨#[]⟩ : ByteArray)] (0, 0) _ rfl (by (with_reducible repeat (first | refine blk_drewN ?_ _ | refine blk_drew ?_ | refine blk_alloc ?_ _)); refine blk_put (cs := #[.int .i64 2, .int .i64 a0, .string (⟨#[]⟩ : ByteArray)]) ?_ 2 _ rfl; (with_reducible repeat (first | refine blk_drewN ?_ _ | refine blk_drew ?_ | refine blk_alloc ?_ _)); refine blk_put (cs := #[.int .i64 2, .int .i64 0, .string (⟨#[]⟩ : ByteArray)]) ?_ 1 _ rfl; (with_reducible repeat (first | refine blk_drewN ?_ _ | refine blk_drew ?_ | refine blk_alloc ?_ _)); refine blk_put (cs := #[.int .i64 0, .int .i64 0, .string (⟨#[]⟩ : ByteArray)]) ?_ 0 _ rfl; (with_reducible repeat (first | refine blk_drewN ?_ _ | refine blk_drew ?_ | refine blk_alloc ?_ _)); exact BK124.out) Tryd.underlying84 rfl (by kernel_rfl)) rfl ?_
 exact ⟨by first | rfl | (simp [errW_none, errW_some] <;> rfl) | (simp [*, errW_none, errW_some] <;> rfl), by repeat (first | (with_reducible first | exact HB.out | apply below_alloc | apply pw_below_drewN | apply below_drew1 | refine below_set ?_ GE124.out) | exact HB.out)⟩
def rems (u : Int) : Nat → List Int
 | 0 => []
 | n + 1 => (u / 2 ^ (8 * n) % 256) :: rems u n
def layIntN (i : Int) : Nat := (Lib.bitLen (if 0 ≤ i then i else -1 - i).toNat + 7) / 8
def layIntB (i : Int) : List Int := (if 0 ≤ i then 56 + (layIntN i : Int) else 55 - (layIntN i : Int)) :: rems (IntKind.u64.wrap i) (layIntN i)
def layTextB (t : ByteArray) : List Int := [80] ++ bytesOf ⟨(Lib.replaceAll t.data.toList [0] [0, 255]).toArray⟩ ++ [0, 1]
def layB (k i : Int) (t : ByteArray) : List Int := if k = 0 then [16] else if k = 1 then [Go.bits .or .u8 32 (i % 256)] else if k = 2 then layIntB i else layTextB t
set_option maxHeartbeats 2000000 in
theorem lay0 (k i : Int) (t : ByteArray) (w0 W : World) (base : Nat) (v : Value) (xs : List Int) (HB : Bs w0 W base v xs) (hl : xs.length ≤ 1000000) :
 Calls Tryd.prog 97 #[v, .agg #[.int .i64 k, .int .i64 i, .string t]] W fun e w' => ∃ v1, e = .returned v1 ∧ Bs w0 w' base v1 (xs ++ [16]) := by
 have HB := Aside0.mk HB
 go_enter Tryd.func97, Tryd.ntmps97
 go_wp2_with (first | ((with_reducible refine gate_builtin (b := .append) (xs := #[.tmp 5, .tmp 6]) rfl ?_); at_builtin; refine Bs.one (w0 := w0) (base := base) rfl (.tmp 5) (.tmp 6) 66 rfl Tryd.underlying66 info5 v xs 16 rfl _ (World.size_alloc _ _).symm rfl (HB.out.alloc _) (by omega) ?_; intro v1 w1 h1 _; have H1 := Aside0.mk h1; clear h1))
 go_ret
 exact ⟨_, rfl, H1.out⟩
set_option maxHeartbeats 2000000 in
theorem lay1 (k i : Int) (t : ByteArray) (w0 W : World) (base : Nat) (v : Value) (xs : List Int) (HB : Bs w0 W base v xs) (hl : xs.length ≤ 1000000) :
 Calls Tryd.prog 100 #[v, .agg #[.int .i64 k, .int .i64 i, .string t]] W fun e w' => ∃ v1, e = .returned v1 ∧ Bs w0 w' base v1 (xs ++ [Go.bits .or .u8 32 (i % 256)]) := by
 have HB := Aside0.mk HB
 go_enter Tryd.func100, Tryd.ntmps100
 go_wp2_with (first | ((with_reducible refine gate_builtin (b := .append) (xs := #[.tmp 5, .tmp 10]) rfl ?_); at_builtin; refine Bs.one (w0 := w0) (base := base) rfl (.tmp 5) (.tmp 10) 66 rfl Tryd.underlying66 info5 v xs (Go.bits .or .u8 32 (i % 256)) rfl _ (World.size_alloc _ _).symm rfl (HB.out.alloc _) (by omega) ?_; intro v1 w1 h1 _; have H1 := Aside0.mk h1; clear h1))
 go_ret
 exact ⟨_, rfl, H1.out⟩
theorem bitLen_64 (x : Nat) (h : x < 18446744073709551616) : Lib.bitLen x ≤ 64 := by
 rcases Nat.eq_zero_or_pos x with rfl | h0
 · decide
 · have key : ∀ n x : Nat, x < 2 ^ n → n ≤ 64 → Lib.bitLen x ≤ n := by
    intro n
    induction n with
    | zero => intro x hx _; obtain rfl : x = 0 := by simpa using hx
              decide
    | succ n ih =>
     intro x hx hn
     by_cases h0 : x = 0
     · subst h0; have : Lib.bitLen 0 = 0 := by decide
       omega
     · have h64 : x < 2 ^ 64 := Nat.lt_of_lt_of_le hx (Nat.pow_le_pow_right (by omega) hn)
       rw [Lib.bitLen_half x h0 h64]
       have := ih (x / 2) (by rw [Nat.pow_succ] at hx; omega) (by omega)
       omega
   exact key 64 x h (Nat.le_refl _)
theorem layIntN_le (i : Int) (h0 : -9223372036854775808 ≤ i) (h1 : i ≤ 9223372036854775807) : layIntN i ≤ 8 := by
 unfold layIntN
 have := bitLen_64 (if 0 ≤ i then i else -1 - i).toNat (by split <;> omega)
 omega
set_option maxHeartbeats 4000000 in
set_option maxRecDepth 100000 in
theorem layIntP (k i : Int) (t : ByteArray) (w0 W : World) (base : Nat) (v : Value) (xs : List Int) (HB : Bs w0 W base v xs) (hl : xs.length ≤ 1000000) (hi0 : 0 ≤ i) (hi1 : i ≤ 9223372036854775807) :
 Calls Tryd.prog 104 #[v, .agg #[.int .i64 k, .int .i64 i, .string t]] W fun e w' => ∃ v1, e = .returned v1 ∧ Bs w0 w' base v1 (xs ++ layIntB i) := by
 have HB := Aside0.mk HB
 have e1 : IntKind.u64.wrap i = i := by simp [IntKind.wrap, IntKind.signed, IntKind.bits]; omega
 have e2 : i / 9223372036854775808 = 0 := by omega
 have e3 := bits_xor_0 i hi0 (by omega)
 go_enter Tryd.func104, Tryd.ntmps104
 obtain ⟨L, hL⟩ : ∃ L, Lib.bitLen i.toNat = L := ⟨_, rfl⟩
 have HN : Aside0 (layIntN i = (L + 7) / 8) := ⟨by unfold layIntN; rw [if_pos hi0, hL]⟩
 have HL := Aside0.mk hL
 have hL64 : L ≤ 64 := hL ▸ bitLen_64 i.toNat (by omega)
 clear hL
 obtain ⟨n, hn⟩ : ∃ n, n = (L + 7) / 8 := ⟨_, rfl⟩
 have hn8 : n ≤ 8 := by omega
 have HN2 : Aside0 (layIntN i = n) := ⟨by rw [HN.out, hn]⟩
 have eN : ((L : Int) + 7) / 8 = (n : Int) := by omega
 clear HN hn
 have HT : Aside0 ([56 + (n : Int)] ++ rems (IntKind.u64.wrap i) n = layIntB i) := ⟨by unfold layIntB; rw [HN2.out, if_pos hi0]; rfl⟩
 rw [e1] at HT
 clear HN2
 go_wp2_with (first | (go_at_call 126; refine (Tryd.bits_Len64 i _ hi0 (by omega)).mono ?_; rintro e w' ⟨rfl, rfl⟩; rw [HL.out]) | ((with_reducible refine gate_builtin (b := .append) (xs := #[.tmp 23, .tmp 27]) rfl ?_); at_builtin; refine Bs.one (w0 := w0) (base := base) rfl (.tmp 23) (.tmp 27) 66 rfl Tryd.underlying66 info5 v xs (56 + (n : Int)) rfl _ (World.size_alloc _ _).symm rfl (HB.out.alloc _) (by omega) ?_; intro v1 w1 h1 _; have H1 := Aside0.mk h1; clear h1))
 clear HL eN hL64
 go_loopw [0, 7] (fun v0 v7 wr => ∃ (m : Nat) (ys : List Int), m ≤ n ∧ v7 = .int .i64 ((m : Int) - 1) ∧ Aside0 (ys ++ rems i m = layIntB i) ∧ Aside0 (ys.length ≤ 9 - m) ∧ Aside0 (Bs w0 wr base v0 (xs ++ ys))) (fun _ v7 _ => ((intOf v7) + 1).toNat)
 case atStart => exact ⟨n, [56 + (n : Int)], Nat.le_refl _, rfl, HT, ⟨by simp; omega⟩, H1⟩
 case round =>
  clear H1 HT HB
  obtain ⟨m, ys, hm, rfl, HT, HY, HB⟩ := hrel
  by_cases hpos : 0 < m
  · obtain ⟨m, rfl⟩ : ∃ q, m = q + 1 := ⟨m - 1, by omega⟩
    have d1 : decide ((0 : Int) ≤ ((m + 1 : Nat) : Int) - 1) = true := decide_eq_true (by omega)
    have e5 : ((m + 1 : Nat) : Int) - 1 = (m : Int) := by omega
    rw [e5]
    rw [e5] at d1
    have H2 : Aside0 ((ys ++ [i / 2 ^ (8 * m) % 256]) ++ rems i m = layIntB i) := ⟨by rw [← HT.out, rems]; simp⟩
    have hlen : (xs ++ ys).length ≤ 1000000000 := by have := HY.out; simp; omega
    clear e5
    go_wp2_with (first | ((with_reducible refine gate_builtin (b := .append) (xs := #[.tmp 41, .tmp 49]) rfl ?_); at_builtin; refine Bs.one (w0 := w0) (base := base) rfl (.tmp 41) (.tmp 49) 66 rfl Tryd.underlying66 info5 u0 (xs ++ ys) (i / 2 ^ (8 * m) % 256) rfl _ rfl rfl HB.out hlen ?_; intro v2 w2 h1 _; rw [List.append_assoc] at h1; have H1 := Aside0.mk h1; clear h1))
    go_roundw
    case rel => exact ⟨m, _, by omega, rfl, H2, ⟨by have := HY.out; simp; omega⟩, H1⟩
    case measure => simp [intOf]
  · obtain rfl : m = 0 := by omega
    have H2 : Aside0 (ys = layIntB i) := ⟨by rw [← HT.out]; simp [rems]⟩
    have e5 : ((0 : Nat) : Int) - 1 = -1 := rfl
    rw [e5]
    go_wp2
    go_ret
    exact ⟨_, rfl, by rw [← H2.out]; exact HB.out⟩
set_option maxHeartbeats 4000000 in
set_option maxRecDepth 100000 in
theorem layIntM (k i : Int) (t : ByteArray) (w0 W : World) (base : Nat) (v : Value) (xs : List Int) (HB : Bs w0 W base v xs) (hl : xs.length ≤ 1000000) (hi0 : i < 0) (hi1 : -9223372036854775808 ≤ i) :
 Calls Tryd.prog 104 #[v, .agg #[.int .i64 k, .int .i64 i, .string t]] W fun e w' => ∃ v1, e = .returned v1 ∧ Bs w0 w' base v1 (xs ++ layIntB i) := by
 have HB := Aside0.mk HB
 obtain ⟨U, hU⟩ : ∃ U, U = IntKind.u64.wrap i := ⟨_, rfl⟩
 have e1 : IntKind.u64.wrap i = U := hU.symm
 have hU2 : U = i + 18446744073709551616 := by rw [hU]; simp [IntKind.wrap, IntKind.signed, IntKind.bits]; omega
 obtain ⟨V, hV⟩ : ∃ V, V = -1 - i := ⟨_, rfl⟩
 have hV0 : 0 ≤ V := by omega
 have hV1 : V < 18446744073709551616 := by omega
 have e2 : U / 9223372036854775808 = 1 := by omega
 have e3 := bits_xor_1 U (by omega) (by omega)
 rw [show 18446744073709551615 - U = V by omega] at e3
 have e4 := bits_xor_1 V (by omega) (by omega)
 rw [show 18446744073709551615 - V = U by omega] at e4
 have HE := Aside0.mk e1
 have HV := Aside0.mk hV
 clear hU hU2 hV
 go_enter Tryd.func104, Tryd.ntmps104
 obtain ⟨L, hL⟩ : ∃ L, Lib.bitLen V.toNat = L := ⟨_, rfl⟩
 have HN : Aside0 (layIntN i = (L + 7) / 8) := ⟨by unfold layIntN; rw [if_neg (by omega), ← HV.out, hL]⟩
 have HL := Aside0.mk hL
 have hL64 : L ≤ 64 := hL ▸ bitLen_64 V.toNat (by omega)
 clear hL
 obtain ⟨n, hn⟩ : ∃ n, n = (L + 7) / 8 := ⟨_, rfl⟩
 have hn8 : n ≤ 8 := by omega
 have HN2 : Aside0 (layIntN i = n) := ⟨by rw [HN.out, hn]⟩
 have eN : ((L : Int) + 7) / 8 = (n : Int) := by omega
 clear HN hn
 have HT : Aside0 ([55 - (n : Int)] ++ rems (IntKind.u64.wrap i) n = layIntB i) := ⟨by unfold layIntB; rw [HN2.out, if_neg (by omega)]; rfl⟩
 rw [HE.out] at HT
 clear HN2
 go_wp2_with (first | (go_at_call 126; refine (Tryd.bits_Len64 V _ hV0 (by omega)).mono ?_; rintro e w' ⟨rfl, rfl⟩; rw [HL.out]) | ((with_reducible refine gate_builtin (b := .append) (xs := #[.tmp 29, .tmp 33]) rfl ?_); at_builtin; refine Bs.one (w0 := w0) (base := base) rfl (.tmp 29) (.tmp 33) 66 rfl Tryd.underlying66 info5 v xs (55 - (n : Int)) rfl _ (World.size_alloc _ _).symm rfl (HB.out.alloc _) (by omega) ?_; intro v1 w1 h1 _; have H1 := Aside0.mk h1; clear h1))
 clear HL eN hL64
 go_loopw [0, 7] (fun v0 v7 wr => ∃ (m : Nat) (ys : List Int), m ≤ n ∧ v7 = .int .i64 ((m : Int) - 1) ∧ Aside0 (ys ++ rems U m = layIntB i) ∧ Aside0 (ys.length ≤ 9 - m) ∧ Aside0 (Bs w0 wr base v0 (xs ++ ys))) (fun _ v7 _ => ((intOf v7) + 1).toNat)
 case atStart => exact ⟨n, [55 - (n : Int)], Nat.le_refl _, rfl, HT, ⟨by simp; omega⟩, H1⟩
 case round =>
  clear H1 HT HB
  obtain ⟨m, ys, hm, rfl, HT, HY, HB⟩ := hrel
  by_cases hpos : 0 < m
  · obtain ⟨m, rfl⟩ : ∃ q, m = q + 1 := ⟨m - 1, by omega⟩
    have d1 : decide ((0 : Int) ≤ ((m + 1 : Nat) : Int) - 1) = true := decide_eq_true (by omega)
    have e5 : ((m + 1 : Nat) : Int) - 1 = (m : Int) := by omega
    rw [e5]
    rw [e5] at d1
    have H2 : Aside0 ((ys ++ [U / 2 ^ (8 * m) % 256]) ++ rems U m = layIntB i) := ⟨by rw [← HT.out, rems]; simp⟩
    have hlen : (xs ++ ys).length ≤ 1000000000 := by have := HY.out; simp; omega
    clear e5
    go_wp2_with (first | ((with_reducible refine gate_builtin (b := .append) (xs := #[.tmp 41, .tmp 49]) rfl ?_); at_builtin; refine Bs.one (w0 := w0) (base := base) rfl (.tmp 41) (.tmp 49) 66 rfl Tryd.underlying66 info5 u0 (xs ++ ys) (U / 2 ^ (8 * m) % 256) rfl _ rfl rfl HB.out hlen ?_; intro v2 w2 h1 _; rw [List.append_assoc] at h1; have H1 := Aside0.mk h1; clear h1))
    go_roundw
    case rel => exact ⟨m, _, by omega, rfl, H2, ⟨by have := HY.out; simp; omega⟩, H1⟩
    case measure => simp [intOf]
  · obtain rfl : m = 0 := by omega
    have H2 : Aside0 (ys = layIntB i) := ⟨by rw [← HT.out]; simp [rems]⟩
    have e5 : ((0 : Nat) : Int) - 1 = -1 := rfl
    rw [e5]
    go_wp2
    go_ret
    exact ⟨_, rfl, by rw [← H2.out]; exact HB.out⟩
theorem layIntA (k i : Int) (t : ByteArray) (w0 W : World) (base : Nat) (v : Value) (xs : List Int) (HB : Bs w0 W base v xs) (hl : xs.length ≤ 1000000) (hi0 : -9223372036854775808 ≤ i) (hi1 : i ≤ 9223372036854775807) :
 Calls Tryd.prog 104 #[v, .agg #[.int .i64 k, .int .i64 i, .string t]] W fun e w' => ∃ v1, e = .returned v1 ∧ Bs w0 w' base v1 (xs ++ layIntB i) := by
 by_cases h : 0 ≤ i
 · exact layIntP k i t w0 W base v xs HB hl h hi1
 · exact layIntM k i t w0 W base v xs HB hl (by omega) hi0
theorem reads_two (W : World) (x y : Int) (e : Nat) : ReadsInt (W.alloc (.cells #[.int .u8 x, .int .u8 y] e)) .u8 (some ⟨W.heap.size, 0, none⟩) 2 [x, y] := by
 refine ⟨rfl, by omega, fun _ => ⟨_, rfl, fun j hj => ?_⟩⟩
 rw [add_plain]
 have : j = 0 ∨ j = 1 := by omega
 rcases this with rfl | rfl <;> simp [World.cell?_alloc_new]
theorem replaceK_len (old new : List UInt8) : ∀ (k : Nat) (s : List UInt8), (Lib.replaceK old new k s).length ≤ s.length + k * new.length := by
 intro k
 induction k with
 | zero => intro s; simp [Lib.replaceK]
 | succ k ih =>
  intro s
  unfold Lib.replaceK
  split
  · omega
  · have := ih (s.drop ((Lib.index s old).toNat + old.length))
    simp only [List.length_append, List.length_take, List.length_drop] at *
    rw [Nat.succ_mul]
    omega
theorem replaceAll_len (t : ByteArray) : (Lib.replaceAll t.data.toList [0] [0, 255]).length ≤ 3 * t.size := by
 unfold Lib.replaceAll Lib.replace
 rw [if_neg (by decide)]
 have h := replaceK_len [0] [0, 255] (Lib.replaceNum t.data.toList [0] (-1)) t.data.toList
 have h2 : Lib.replaceNum t.data.toList [0] (-1) ≤ t.size := by
  unfold Lib.replaceNum
  rw [if_pos (by omega)]
  exact Lib.countB_le ⟨#[0]⟩ (by decide) t.size t (Nat.le_refl _)
 have h3 : t.data.toList.length = t.size := by rw [Array.length_toList]; rfl
 simp only [List.length_cons, List.length_nil] at h
 omega
set_option maxHeartbeats 4000000 in
set_option maxRecDepth 100000 in
theorem layTextC (k i : Int) (t : ByteArray) (w0 W : World) (base : Nat) (v : Value) (xs : List Int) (HB : Bs w0 W base v xs) (hl : xs.length ≤ 1000000) (ht : t.size ≤ 1000000) (m : Int) (hm : w0.cell? ⟨5, 0, none⟩ = some (.int .i64 m)) (hmb : 5 < base) :
 Calls Tryd.prog 109 #[v, .agg #[.int .i64 k, .int .i64 i, .string t]] W fun e w' => ∃ v1, e = .returned v1 ∧ Bs w0 w' base v1 (xs ++ layTextB t) := by
 have HB := Aside0.mk HB
 have HM := Aside0.mk hm
 clear hm
 obtain ⟨Y, hY⟩ : ∃ Y : ByteArray, (⟨(Lib.replaceAll t.data.toList [0] [0, 255]).toArray⟩ : ByteArray) = Y := ⟨_, rfl⟩
 have HY := Aside0.mk hY
 have hYs : Y.size ≤ 3000000 := by
  have h := replaceAll_len t
  rw [← hY]
  show (Lib.replaceAll t.data.toList [0] [0, 255]).toArray.size ≤ _
  simp; omega
 clear hY
 go_enter Tryd.func109, Tryd.ntmps109
 go_wp2_with (first
  | ((with_reducible refine gate_builtin (b := .append) (xs := #[.tmp 5, .tmp 6]) rfl ?_); at_builtin; refine Bs.one (w0 := w0) (base := base) rfl (.tmp 5) (.tmp 6) 66 rfl Tryd.underlying66 info5 v xs 80 rfl _ (World.size_alloc _ _).symm rfl (HB.out.alloc _) (by omega) ?_; intro v1 w1 h1 hk; have H1 := Aside0.mk h1; have hc2 : w1.cell? ⟨W.heap.size, 2, none⟩ = some (.string t) := (blk_cell (hk W.heap.size _ 84 (by decide) (heap_alloc_new W _)) 2).trans rfl; clear h1 hk)
  | (go_at_call 94; refine (Tryd.strings_ReplaceAll t ⟨#[0]⟩ ⟨#[0, 255]⟩ m _ (by omega) ((H1.out.2.1.cell hmb).trans HM.out) (by decide) (by have := Lib.countB_le ⟨#[0]⟩ (by decide) t.size t (Nat.le_refl _); simp only [show (⟨#[0, 255]⟩ : ByteArray).size = 2 from rfl]; omega)).mono ?_; rintro e w2 ⟨rfl, hb⟩; rw [HY.out]; have H2 := Aside0.mk (H1.out.below hb); clear hb hc2)
  | ((with_reducible refine gate_builtin (b := .append) (xs := #[.tmp 8, .tmp 11]) rfl ?_); at_builtin; refine Bs.str (w0 := w0) (base := base) rfl (.tmp 8) (.tmp 11) 66 9 rfl Tryd.underlying66 Tryd.underlying9 info5 v1 (xs ++ [80]) Y rfl rfl H2.out (by simp; omega) ?_; intro v3 w3 h1 _; have H3 := Aside0.mk h1; clear h1)
  | ((with_reducible refine gate_builtin (b := .append) (xs := #[.tmp 13, .tmp 14]) rfl ?_); at_builtin; refine Bs.row (w0 := w0) (base := base) rfl (.tmp 13) (.tmp 14) 66 rfl Tryd.underlying66 info5 v3 (xs ++ [80] ++ bytesOf Y) [0, 1] (some ⟨w3.heap.size, 0, none⟩) 2 2 rfl rfl (reads_two w3 0 1 5) (H3.out.alloc _) (by simp [bytesOf_length]; omega) ?_; intro v4 w4 h1 _; have H4 := Aside0.mk h1; clear h1))
 go_ret
 refine ⟨_, rfl, ?_⟩
 have e : xs ++ [80] ++ bytesOf Y ++ [0, 1] = xs ++ layTextB t := by unfold layTextB; rw [HY.out]; simp
 rw [← e]
 exact H4.out
def layV (x : S84) : List Int := layB x.f0 x.f1 x.f2
theorem rems_length (u : Int) : ∀ n, (rems u n).length = n := by
 intro n
 induction n with
 | zero => rfl
 | succ n ih => simp [rems, ih]
theorem layV_len (x : S84) (h : goodVal x) : (layV x).length ≤ 20000 := by
 obtain ⟨_, _, h2, h3, h4⟩ := h
 unfold layV layB
 split
 · simp
 split
 · simp
 split
 · have := layIntN_le x.f1 h2 h3
   simp [layIntB, rems_length]; omega
 · have := replaceAll_len x.f2
   have e : ∀ l : List UInt8, (bytesOf ⟨l.toArray⟩).length = l.length := fun l => by rw [bytesOf_length]; show l.toArray.size = _; simp
   simp only [layTextB, List.length_append, e, List.length_cons, List.length_nil]
   omega
def bits_Key.f (k : Nat) (l : List S84) : Option (ByteArray × Int) :=
 (bits_check.f k l).bind fun e => if e = 0 then (if goodVals l then some (strOfNums (l.flatMap layV), 0) else none) else some (⟨#[]⟩, e)
set_option maxHeartbeats 4000000 in
set_option maxRecDepth 100000 in
theorem bits_Key.calls (k : Nat) (A0 : Option Addr) (c0 : Nat) (l0 : List (S84)) (r1 : ByteArray) (r2 : Int) (w : World) (hr0 : Kd.C k84 w A0 l0.length l0) (hc0 : l0.length ≤ c0) (h : bits_Key.f k l0 = some (r1, r2)) (hG : GL w) :
 Calls Tryd.prog 36 #[.slice A0 l0.length c0] w fun e w' => e = .returned (.tuple #[.string r1, .int .i64 r2]) ∧ Below w.heap.size w w' := by
 unfold bits_Key.f at h
 obtain ⟨e0, he0, h⟩ := Option.bind_eq_some_iff.1 h
 have HE := Aside0.mk he0
 have HR0 := Aside0.mk hr0
 have HG := Aside0.mk hG
 obtain ⟨mm, hmm⟩ := hG.maxlen
 have HM := Aside0.mk hmm
 clear he0 hr0 hG hmm
 have HB := Aside0.mk (Below.refl w.heap.size w)
 by_cases hz : e0 = 0
 case neg =>
  rw [if_neg hz] at h
  simp only [Option.some.injEq, Prod.mk.injEq] at h
  obtain ⟨rfl, rfl⟩ := h
  have d1 : decide (e0 = 0) = false := decide_eq_false hz
  go_enter Tryd.func36, Tryd.ntmps36
  go_wp2_with (first | (go_at_call 72; refine (bits_check.calls k A0 c0 l0 e0 _ HR0.out hc0 HE.out HG.out).mono ?_; rintro e w1 ⟨rfl, hb⟩))
  go_ret2
  exact ⟨rfl, hb⟩
 subst hz
 rw [if_pos rfl] at h
 by_cases hg : goodVals l0
 case neg => rw [if_neg hg] at h; exact absurd h (by simp)
 rw [if_pos hg] at h
 simp only [Option.some.injEq, Prod.mk.injEq] at h
 obtain ⟨hr, rfl⟩ := h
 have Hr := Aside0.mk hr
 have HGV := Aside0.mk hg
 have hl16 : l0.length ≤ 16 := hg.1
 clear hr hg
 go_enter Tryd.func36, Tryd.ntmps36
 go_wp2_with (first | (go_at_call 72; refine (bits_check.calls k A0 c0 l0 0 _ HR0.out hc0 HE.out HG.out).mono ?_; rintro e w1 ⟨rfl, hb⟩; have HB1 := Aside0.mk hb; clear hb))
 go_loopw [5, 15] (fun v5 v15 wr => ∃ (n : Nat), n ≤ l0.length ∧ v15 = .int .i64 (n : Int) ∧ Aside0 (Bs w wr w.heap.size v5 ((l0.take n).flatMap layV))) (fun _ v15 _ => l0.length - (intOf v15).toNat)
 case atStart => exact ⟨0, Nat.zero_le _, rfl, ⟨by simpa using Bs.nil HB1.out⟩⟩
 case round =>
  clear HB1 HB
  obtain ⟨n, hn, rfl, HBS⟩ := hrel
  by_cases hlt : n < l0.length
  · have d1 : decide ((n : Int) < (l0.length : Int)) = true := decide_eq_true (by omega)
    have d2 : decide (n < l0.length) = true := decide_eq_true hlt
    obtain ⟨ad, e1, h0, h1, h2⟩ := at_T84 HR0.out (n : Int) (by omega) (by omega)
    cases e1
    simp only [Int.toNat_natCast] at h0 h1 h2
    replace h0 := (HBS.out.2.1.cell (World.block_lt_of_cell? w _ h0)).trans h0
    replace h1 := (HBS.out.2.1.cell (World.block_lt_of_cell? w _ h1)).trans h1
    replace h2 := (HBS.out.2.1.cell (World.block_lt_of_cell? w _ h2)).trans h2
    have HT := Aside0.mk (rd_take (l := l0) layV n hlt)
    have HX := Aside0.mk (goodVals_at HGV.out n hlt)
    have hlen : ((l0.take n).flatMap layV).length ≤ 400000 := by
     have hh := flat_len (l := l0.take n) layV 20000 (fun x hx => layV_len x (HGV.out.2 x (List.mem_of_mem_take hx)))
     have : (l0.take n).length ≤ 16 := by simp; omega
     omega
    have HLEN := Aside0.mk hlen
    have hml := HM.out
    have HMB : Aside0 (5 < w.heap.size) := ⟨World.block_lt_of_cell? w ⟨5, 0, none⟩ HM.out⟩
    clear hlen hml
    generalize rd_T84 l0 (n : Int) = x at *
    obtain ⟨x0, x1, x2⟩ := x
    obtain ⟨g0, g1, g2, g3, g4⟩ := HX.out
    simp only at g0 g1 g2 g3 g4
    clear HX
    have HI2 := Aside0.mk (And.intro g2 g3)
    have HI4 := Aside0.mk g4
    clear g2 g3 g4
    have hfl := codec_lay
    have hk4 : x0 = 0 ∨ x0 = 1 ∨ x0 = 2 ∨ x0 = 3 := by omega
    clear g0 g1
    rcases hk4 with rfl | rfl | rfl | rfl
    · have HT2 : Aside0 ((l0.take (n + 1)).flatMap layV = (l0.take n).flatMap layV ++ [16]) := ⟨HT.out⟩
      clear HT
      go_wp2_with fail
      go_region_with (first
       | (go_at_call 73; go_must (refine (codecs_call0 _).mono ?_; rintro e w2 ⟨rfl, hb⟩; have hq : ∀ (j : Nat) (v : Value), (#[.int .i64 0, .int .i64 x1, .string x2] : Array Value)[j]? = some v → w2.cell? ⟨wr.heap.size, j, none⟩ = some v := fun j v hv => pw_cell_below hb ((World.cell?_alloc_new wr _ 84 j).trans hv); have hq0 := hq 0 _ rfl; have hq1 := hq 1 _ rfl; have hq2 := hq 2 _ rfl; have HBS2 := Aside0.mk ((HBS.out.alloc _).drew.below hb); clear hb hq))
       | (go_at_call 97; go_must (refine (lay0 0 x1 x2 w _ w.heap.size u5 _ HBS2.out (Nat.le_trans HLEN.out (by omega))).mono ?_; rintro e w3 ⟨v3, rfl, hb3⟩; rw [← HT2.out] at hb3; have HB3 := Aside0.mk hb3; clear hb3)))
      all_goals go_wp2
      all_goals go_roundw
      all_goals first | exact ⟨n + 1, by omega, by go_num, HB3⟩ | (simp [intOf]; omega)
    · have HT2 : Aside0 ((l0.take (n + 1)).flatMap layV = (l0.take n).flatMap layV ++ [Go.bits .or .u8 32 (x1 % 256)]) := ⟨HT.out⟩
      clear HT
      go_wp2_with fail
      go_region_with (first
       | (go_at_call 73; go_must (refine (codecs_call1 _).mono ?_; rintro e w2 ⟨rfl, hb⟩; have hq : ∀ (j : Nat) (v : Value), (#[.int .i64 1, .int .i64 x1, .string x2] : Array Value)[j]? = some v → w2.cell? ⟨wr.heap.size, j, none⟩ = some v := fun j v hv => pw_cell_below hb ((World.cell?_alloc_new wr _ 84 j).trans hv); have hq0 := hq 0 _ rfl; have hq1 := hq 1 _ rfl; have hq2 := hq 2 _ rfl; have HBS2 := Aside0.mk ((HBS.out.alloc _).drew.below hb); clear hb hq))
       | (go_at_call 100; go_must (refine (lay1 1 x1 x2 w _ w.heap.size u5 _ HBS2.out (Nat.le_trans HLEN.out (by omega))).mono ?_; rintro e w3 ⟨v3, rfl, hb3⟩; rw [← HT2.out] at hb3; have HB3 := Aside0.mk hb3; clear hb3)))
      all_goals go_wp2
      all_goals go_roundw
      all_goals first | exact ⟨n + 1, by omega, by go_num, HB3⟩ | (simp [intOf]; omega)
    · have HT2 : Aside0 ((l0.take (n + 1)).flatMap layV = (l0.take n).flatMap layV ++ layIntB x1) := ⟨HT.out⟩
      clear HT
      go_wp2_with fail
      go_region_with (first
       | (go_at_call 73; go_must (refine (codecs_call2 _).mono ?_; rintro e w2 ⟨rfl, hb⟩; have hq : ∀ (j : Nat) (v : Value), (#[.int .i64 2, .int .i64 x1, .string x2] : Array Value)[j]? = some v → w2.cell? ⟨wr.heap.size, j, none⟩ = some v := fun j v hv => pw_cell_below hb ((World.cell?_alloc_new wr _ 84 j).trans hv); have hq0 := hq 0 _ rfl; have hq1 := hq 1 _ rfl; have hq2 := hq 2 _ rfl; have HBS2 := Aside0.mk ((HBS.out.alloc _).drew.below hb); clear hb hq))
       | (go_at_call 104; go_must (refine (layIntA 2 x1 x2 w _ w.heap.size u5 _ HBS2.out (Nat.le_trans HLEN.out (by omega)) HI2.out.1 HI2.out.2).mono ?_; rintro e w3 ⟨v3, rfl, hb3⟩; rw [← HT2.out] at hb3; have HB3 := Aside0.mk hb3; clear hb3)))
      all_goals go_wp2
      all_goals go_roundw
      all_goals first | exact ⟨n + 1, by omega, by go_num, HB3⟩ | (simp [intOf]; omega)
    · have HT2 : Aside0 ((l0.take (n + 1)).flatMap layV = (l0.take n).flatMap layV ++ layTextB x2) := ⟨HT.out⟩
      clear HT
      go_wp2_with fail
      go_region_with (first
       | (go_at_call 73; go_must (refine (codecs_call3 _).mono ?_; rintro e w2 ⟨rfl, hb⟩; have hq : ∀ (j : Nat) (v : Value), (#[.int .i64 3, .int .i64 x1, .string x2] : Array Value)[j]? = some v → w2.cell? ⟨wr.heap.size, j, none⟩ = some v := fun j v hv => pw_cell_below hb ((World.cell?_alloc_new wr _ 84 j).trans hv); have hq0 := hq 0 _ rfl; have hq1 := hq 1 _ rfl; have hq2 := hq 2 _ rfl; have HBS2 := Aside0.mk ((HBS.out.alloc _).drew.below hb); clear hb hq))
       | (go_at_call 109; go_must (refine (layTextC 3 x1 x2 w _ w.heap.size u5 _ HBS2.out (Nat.le_trans HLEN.out (by omega)) (Nat.le_trans HI4.out (by omega)) mm HM.out HMB.out).mono ?_; rintro e w3 ⟨v3, rfl, hb3⟩; rw [← HT2.out] at hb3; have HB3 := Aside0.mk hb3; clear hb3)))
      all_goals go_wp2
      all_goals go_roundw
      all_goals first | exact ⟨n + 1, by omega, by go_num, HB3⟩ | (simp [intOf]; omega)
  · have d1 : decide ((n : Int) < (l0.length : Int)) = false := decide_eq_false (by omega)
    have d2 : decide (n < l0.length) = false := decide_eq_false hlt
    have e : l0.take n = l0 := List.take_of_length_le (by omega)
    have hcv := own_string (P := Tryd.prog) (src := 66) (dst := 9) Tryd.underlying66 Tryd.underlying5 Tryd.underlying9 HBS.out.1
    rw [e, Hr.out] at hcv
    go_wp2
    go_ret2
    exact ⟨rfl, HBS.out.2.1⟩
end Go.Proofs.YtggbhdcgfnjogaaDoor.PPl

