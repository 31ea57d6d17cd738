import Derived.Test.YtggbhdcgfnjogaaGreatDoorKLawBack
import Derived.Test.YtggbhdcgfnjogaaGreatDoorKPPcx20
set_option linter.unusedVariables false
namespace Go.Proofs.YtggbhdcgfnjogaaGreatDoor.PlanLaw
open Go.RowKit Go.Proofs.YtggbhdcgfnjogaaGreatDoor.PPc Go.Proofs.YtggbhdcgfnjogaaGreatDoorW.PrintWords Go.Proofs.YtggbhdcgfnjogaaGreatDoorW.PrintLast Go.Proofs.YtggbhdcgfnjogaaGreatDoorW.PrintMore
def colE (c : S49) : List Int := uv 10 (c.f0.size : Int) ++ zh c.f0 ++ [if c.f2 = true then c.f1 + 4 else c.f1]
def encB (num : Int) (cols : List S49) (key : List Int) : List Int := uv 10 num ++ uv 10 (cols.length : Int) ++ cols.flatMap colE ++ uv 10 (key.length : Int) ++ key.flatMap (uv 10)
def catB (nm : ByteArray) : List Int := [56] ++ ([80] ++ escI nm nm.size ++ [0, 1])
def encFin (nm : ByteArray) (l : List Int) : ByteArray × ByteArray × Int := if l.length > 512 then noPair 4 else (strOfNums (catB nm), strOfNums l, 0)
def encR (nm : ByteArray) (num : Int) (cols : List S49) (key : List Int) : ByteArray × ByteArray × Int :=
 if xy nm num cols key = true then encFin nm (encB num cols key) else noPair 169
def catL (nm : ByteArray) : List S42 := [⟨2, 0, ⟨#[]⟩⟩, ⟨3, 0, nm⟩]
theorem catL_lay (nm : ByteArray) : (catL nm).flatMap layV = catB nm := by
 have h1 : layV ⟨2, 0, ⟨#[]⟩⟩ = [56] := by decide
 have h2 : layV ⟨3, 0, nm⟩ = [80] ++ escI nm nm.size ++ [0, 1] := by
  show layB 3 0 nm = _;unfold layB xv;rw [if_neg (by omega), if_neg (by omega), if_neg (by omega), esc_all, esc_bytes]
 simp only [catL, List.flatMap_cons, List.flatMap_nil, h1, h2, List.append_nil]
 rfl
theorem catL_fault (nm : ByteArray) (h : nm.size ≤ 32) : (∀ x ∈ catL nm, InR x) ∧ zY (catL nm) = 0 := by
 refine ⟨fun x hx => ?_, faultsOf_zero (show (2 : Nat) ≤ 16 by omega) fun x hx => ?_⟩
 · simp only [catL, List.mem_cons, List.not_mem_nil, or_false] at hx
   rcases hx with rfl | rfl <;> exact ⟨show (-9223372036854775808 : Int) ≤ 0 by omega, show (0 : Int) ≤ 9223372036854775807 by omega⟩
 · simp only [catL, List.mem_cons, List.not_mem_nil, or_false] at hx
   rcases hx with rfl | rfl
   · rw [vm _ ⟨show (-9223372036854775808 : Int) ≤ 0 by omega, show (0 : Int) ≤ 9223372036854775807 by omega⟩, if_neg (show ¬ (2 : Int) = 0 by omega), if_neg (show ¬ (2 : Int) = 1 by omega), if_pos rfl]; rfl
   · rw [vm _ ⟨show (-9223372036854775808 : Int) ≤ 0 by omega, show (0 : Int) ≤ 9223372036854775807 by omega⟩, if_neg (show ¬ (3 : Int) = 0 by omega), if_neg (show ¬ (3 : Int) = 1 by omega), if_neg (show ¬ (3 : Int) = 2 by omega), if_pos rfl, if_pos rfl, if_neg (show ¬ nm.size > 4096 by omega)]
theorem cat_prog (nm : ByteArray) (h : nm.size ≤ 32) : Ev (fun k => zJ.f k nm) (strOfNums (catB nm)) := by
 obtain ⟨h1, h2⟩ := catL_fault nm h;have hk := key_prog (catL nm) h1;unfold keyR at hk;rw [if_pos h2, catL_lay] at hk;unfold zJ.f
 have e1 : xj.f 0 = some (2, 0, ⟨#[]⟩) := by rfl
 have e2 : xC.f nm = some (3, 0, nm) := by rfl
 refine Ev.congr (f := fun k => (xe.f k (catL nm)).bind fun bt341 => some bt341.1) (fun k => ?_) (Ev.bind hk (Ev.now _))
 rw [e1, e2]; rfl
theorem cat_ref (nm : ByteArray) (h : nm.size ≤ 32) : Ev (fun k => zk.f k nm) (strOfNums (catB nm)) := by
 obtain ⟨h1, h2⟩ := catL_fault nm h;have hk := key_ref (catL nm) h1;unfold keyR at hk;rw [if_pos h2, catL_lay] at hk;unfold zk.f
 have e1 : zR.f 0 = some (2, 0, ⟨#[]⟩) := by rfl
 have e2 : zE.f nm = some (3, 0, nm) := by rfl
 refine Ev.congr (f := fun k => (qP.f k (catL nm)).bind fun bt341 => some bt341.1) (fun k => ?_) (Ev.bind hk (Ev.now _))
 rw [e1, e2]; rfl
theorem uvar_is (x : Int) (h0 : 0 ≤ x) (h1 : x < 18446744073709551616) : z2.f x = some (strOfNums (uv 10 x)) := by unfold z2.f; rw [if_pos ⟨h0, h1⟩]
theorem uvar_ref (x : Int) (h0 : 0 ≤ x) (h1 : x < 18446744073709551616) : qD.f x = some (strOfNums (uv 10 x)) := by unfold qD.f; exact uvar_is x h0 h1
theorem blob_is (t : ByteArray) (h : t.size ≤ 1048576) : xu.f t = some (strOfNums (uv 10 (t.size : Int) ++ zh t), 0) := by
 unfold xu.f;rw [if_pos (by omega), if_neg (by omega), ← ze, xq]
theorem xU {x : Int} (h0 : 0 ≤ x) (h1 : x ≤ 9223372036854775807) : IntKind.u64.wrap x = x := by
 simp only [IntKind.wrap, IntKind.signed, IntKind.bits]; simp; omega
theorem colE_len (c : S49) (h : c.f0.size ≤ 32) : (colE c).length ≤ 43 := by
 have := zZ 10 (c.f0.size : Int);simp only [colE, List.length_append, zm, List.length_cons, List.length_nil]
 omega
theorem prog_enc_l1 (nm : ByteArray) (num : Int) (cols : List S49) (key : List Int) (hk8 : key.length ≤ 8) (hkey : ∀ x ∈ key, 0 ≤ x ∧ x < 16) (hn : nm.size ≤ 32) :
 ∀ (d i : Nat), i + d = key.length → ∀ acc : List Int, acc.length ≤ 2000 + 100 * i → Ev (fun k => qx.l1 k (strOfNums acc) key (key.length : Int) (i : Int) nm num cols key) (encFin nm (acc ++ (key.drop i).flatMap (uv 10))) := by
 intro d
 induction d with
 | zero =>
  intro i hi acc ha;rw [List.drop_of_length_le (by omega), List.flatMap_nil, List.append_nil];unfold encFin
  by_cases hc : acc.length > 512
  · rw [if_pos hc]
    refine Ev.step (f := fun _ => some ((⟨#[]⟩ : ByteArray), (⟨#[]⟩ : ByteArray), 4)) (fun k => ?_) (Ev.now _);simp only [qx.l1];rw [if_neg (by omega), if_pos (by rw [strOfNums_size]; omega)]
  · rw [if_neg hc]
    refine Ev.step (f := fun k => (zJ.f k nm).bind fun t361 => some (t361, strOfNums acc, 0)) (fun k => ?_) (Ev.bind (cat_prog nm hn) (Ev.now _));simp only [qx.l1];rw [if_neg (by omega), if_neg (by rw [strOfNums_size]; omega)]
 | succ d ih =>
  intro i hi acc ha
  have hil : i < key.length := by omega
  have hb := hkey _ (List.getElem_mem hil);have hu := zZ 10 key[i];have := ih (i + 1) (by omega) (acc ++ uv 10 key[i]) (by rw [List.length_append]; omega);rw [List.drop_eq_getElem_cons hil, List.flatMap_cons, ← List.append_assoc];refine Ev.step (fun k => ?_) this;simp only [qx.l1];rw [if_pos (by omega), if_pos (by omega), if_pos (by omega), xH key i hil, xU (by omega) (by omega), uvar_is _ (by omega) (by omega)];simp only [Option.bind_some];rw [if_pos (by rw [strOfNums_size, strOfNums_size]; omega), ze, z8 (by omega) (by omega)]
  rfl
theorem col_in {cols : List S49} (h : cols.all xn = true) {c : S49} (hc : c ∈ cols) : 1 ≤ c.f0.size ∧ c.f0.size ≤ 32 ∧ (c.f1 = 1 ∨ c.f1 = 2 ∨ c.f1 = 3) := by
 have := List.all_eq_true.1 h c hc;unfold xn at this
 exact of_decide_eq_true this
theorem prog_enc_l0 (nm : ByteArray) (num : Int) (cols : List S49) (key : List Int) (hc16 : cols.length ≤ 16) (hcol : cols.all xn = true) (hk8 : key.length ≤ 8) (hkey : ∀ x ∈ key, 0 ≤ x ∧ x < 16) (hn : nm.size ≤ 32) :
 ∀ (d i : Nat), i + d = cols.length → ∀ acc : List Int, acc.length ≤ 20 + 100 * i → Ev (fun k => qx.l0 k (strOfNums acc) cols (cols.length : Int) (i : Int) nm num cols key) (encFin nm (acc ++ (cols.drop i).flatMap colE ++ uv 10 (key.length : Int) ++ key.flatMap (uv 10))) := by
 intro d
 induction d with
 | zero =>
  intro i hi acc ha;rw [List.drop_of_length_le (by omega), List.flatMap_nil, List.append_nil];have hu := zZ 10 (key.length : Int);have h1 := prog_enc_l1 nm num cols key hk8 hkey hn key.length 0 (by omega) (acc ++ uv 10 (key.length : Int)) (by rw [List.length_append]; omega);rw [List.drop_zero] at h1;refine Ev.step (fun k => ?_) h1;simp only [qx.l0];rw [if_neg (by omega), xU (by omega) (by omega), uvar_is _ (by omega) (by omega)];simp only [Option.bind_some];rw [if_pos (by rw [strOfNums_size, strOfNums_size]; omega), ze]
  rfl
 | succ d ih =>
  intro i hi acc ha
  have hil : i < cols.length := by omega
  obtain ⟨c, hci⟩ : ∃ c, c = cols[i] := ⟨_, rfl⟩;obtain ⟨c1, c2, c3⟩ := col_in hcol (c := c) (by rw [hci]; exact List.getElem_mem hil);have hlen := colE_len c c2;have := ih (i + 1) (by omega) (acc ++ colE c) (by rw [List.length_append]; omega);rw [List.drop_eq_getElem_cons hil, ← hci, List.flatMap_cons, ← List.append_assoc];refine Ev.step (fun k => ?_) this;simp only [qx.l0];rw [if_pos (by omega), if_pos (by omega), if_pos (by omega), zC cols i hil, ← hci, blob_is _ (by omega)];simp only [Option.bind_some]
  have e1 : ((c.f1 % 256) + 4) % 256 = c.f1 + 4 := by omega
  have e2 : c.f1 % 256 = c.f1 := by omega
  rw [e1, e2, z8 (by omega) (by omega)]
  by_cases hf : c.f2 = true
  · rw [if_pos hf]
    have e3 : colE c = uv 10 (c.f0.size : Int) ++ zh c.f0 ++ [c.f1 + 4] := by unfold colE; rw [if_pos hf]
    rw [e3] at hlen ⊢;rw [if_pos (by rw [strOfNums_size, strOfNums_size]; simp only [List.length_append] at hlen ⊢; omega), ze, if_pos (by rw [strOfNums_size, strOfNums_size]; omega), ze]
    rfl
  · rw [if_neg hf]
    have e3 : colE c = uv 10 (c.f0.size : Int) ++ zh c.f0 ++ [c.f1] := by unfold colE; rw [if_neg hf]
    rw [e3] at hlen ⊢;rw [if_pos (by rw [strOfNums_size, strOfNums_size]; simp only [List.length_append] at hlen ⊢; omega), ze, if_pos (by rw [strOfNums_size, strOfNums_size]; omega), ze]
    rfl
theorem key_in {cols : List S49} {key : List Int} (hc : cols.length ≤ 16) (h : key.all (xA cols) = true) : ∀ x ∈ key, 0 ≤ x ∧ x < 16 := by
 intro x hx;have := List.all_eq_true.1 h x hx;unfold xA at this;simp only [Bool.and_eq_true, decide_eq_true_eq] at this
 omega
theorem prog_enc (nm : ByteArray) (num : Int) (cols : List S49) (key : List Int) (hc : ∀ c ∈ cols, c.f0.size ≤ 1000000000) (hk : ∀ x ∈ key, -9223372036854775808 ≤ x ∧ x ≤ 9223372036854775807) (hn : num ≤ 9223372036854775807) :
 Ev (fun k => qx.f k nm num cols key) (encR nm num cols key) := by
 unfold qx.f encR;refine Ev.bind (prog_isTab nm num cols key hc hk) ?_
 cases ht : xy nm num cols key with
 | false => exact Ev.congr (fun k => by rw [if_neg (by simp)]; rfl) (Ev.now _)
 | true =>
  rw [if_pos rfl];unfold xy lens at ht;simp only [Bool.and_eq_true, decide_eq_true_eq] at ht;obtain ⟨⟨_, hn2, hn1, _, hc16, _, hk8⟩, hcols, hkeys, hdup1, hdup2⟩ := ht;have hu1 := zZ 10 num;have hu2 := zZ 10 (cols.length : Int);have h0 := prog_enc_l0 nm num cols key hc16 hcols hk8 (key_in hc16 hkeys) hn2 cols.length 0 (by omega) (uv 10 num ++ uv 10 (cols.length : Int)) (by rw [List.length_append]; omega);rw [List.drop_zero] at h0;refine Ev.congr (fun k => ?_) h0;rw [if_pos rfl, xU (by omega) (by omega), uvar_is _ (by omega) (by omega), xU (by omega) (by omega), uvar_is _ (by omega) (by omega)];simp only [Option.bind_some];rw [if_pos (by rw [strOfNums_size, strOfNums_size]; omega), ze]
  rfl
theorem ref_enc_l1 (nm : ByteArray) (num : Int) (cols : List S49) (key : List Int) (hk8 : key.length ≤ 8) (hkey : ∀ x ∈ key, 0 ≤ x ∧ x < 16) (hn : nm.size ≤ 32) :
 ∀ (d i : Nat), i + d = key.length → ∀ acc : List Int, acc.length ≤ 2000 + 100 * i → Ev (fun k => qk.l1 k (strOfNums acc) (i : Int) nm num cols key ⟨#[]⟩ ⟨#[]⟩) (encFin nm (acc ++ (key.drop i).flatMap (uv 10))) := by
 intro d
 induction d with
 | zero =>
  intro i hi acc ha;rw [List.drop_of_length_le (by omega), List.flatMap_nil, List.append_nil];unfold encFin
  by_cases hc : acc.length > 512
  · rw [if_pos hc]
    refine Ev.step (f := fun _ => some ((⟨#[]⟩ : ByteArray), (⟨#[]⟩ : ByteArray), 4)) (fun k => ?_) (Ev.now _);simp only [qk.l1];rw [if_neg (by omega), if_pos (by rw [strOfNums_size]; omega)]
  · rw [if_neg hc]
    refine Ev.step (f := fun k => (zk.f k nm).bind fun t361 => some (t361, strOfNums acc, 0)) (fun k => ?_) (Ev.bind (cat_ref nm hn) (Ev.now _));simp only [qk.l1];rw [if_neg (by omega), if_neg (by rw [strOfNums_size]; omega)]
 | succ d ih =>
  intro i hi acc ha
  have hil : i < key.length := by omega
  have hb := hkey _ (List.getElem_mem hil);have hu := zZ 10 key[i];have := ih (i + 1) (by omega) (acc ++ uv 10 key[i]) (by rw [List.length_append]; omega);rw [List.drop_eq_getElem_cons hil, List.flatMap_cons, ← List.append_assoc];refine Ev.step (fun k => ?_) this;simp only [qk.l1];rw [if_pos (by omega), if_pos (by omega), xH key i hil, xU (by omega) (by omega), uvar_ref _ (by omega) (by omega)];simp only [Option.bind_some];rw [if_pos (by rw [strOfNums_size, strOfNums_size]; omega), ze, z8 (by omega) (by omega)]
  rfl
theorem ref_enc_l0 (nm : ByteArray) (num : Int) (cols : List S49) (key : List Int) (hc16 : cols.length ≤ 16) (hcol : cols.all xn = true) (hk8 : key.length ≤ 8) (hkey : ∀ x ∈ key, 0 ≤ x ∧ x < 16) (hn : nm.size ≤ 32) :
 ∀ (d i : Nat), i + d = cols.length → ∀ acc : List Int, acc.length ≤ 20 + 100 * i → Ev (fun k => qk.l0 k (strOfNums acc) (i : Int) nm num cols key ⟨#[]⟩ ⟨#[]⟩) (encFin nm (acc ++ (cols.drop i).flatMap colE ++ uv 10 (key.length : Int) ++ key.flatMap (uv 10))) := by
 intro d
 induction d with
 | zero =>
  intro i hi acc ha;rw [List.drop_of_length_le (by omega), List.flatMap_nil, List.append_nil];have hu := zZ 10 (key.length : Int);have h1 := ref_enc_l1 nm num cols key hk8 hkey hn key.length 0 (by omega) (acc ++ uv 10 (key.length : Int)) (by rw [List.length_append]; omega);rw [List.drop_zero] at h1;refine Ev.step (fun k => ?_) h1;simp only [qk.l0];rw [if_neg (by omega), xU (by omega) (by omega), uvar_ref _ (by omega) (by omega)];simp only [Option.bind_some];rw [if_pos (by rw [strOfNums_size, strOfNums_size]; omega), ze]
  rfl
 | succ d ih =>
  intro i hi acc ha
  have hil : i < cols.length := by omega
  obtain ⟨c, hci⟩ : ∃ c, c = cols[i] := ⟨_, rfl⟩;obtain ⟨c1, c2, c3⟩ := col_in hcol (c := c) (by rw [hci]; exact List.getElem_mem hil);have hlen := colE_len c c2;have := ih (i + 1) (by omega) (acc ++ colE c) (by rw [List.length_append]; omega);have hu := zZ 10 (c.f0.size : Int);rw [List.drop_eq_getElem_cons hil, ← hci, List.flatMap_cons, ← List.append_assoc];refine Ev.step (fun k => ?_) this;simp only [qk.l0];rw [if_pos (by omega), if_pos (by omega), zC cols i hil, ← hci, xU (by omega) (by omega), uvar_ref _ (by omega) (by omega)];simp only [Option.bind_some]
  have e1 : (wrap64 (c.f1 + 4)) % 256 = c.f1 + 4 := by rw [z8 (by omega) (by omega)]; omega
  have e2 : c.f1 % 256 = c.f1 := by omega
  have e4 : ∀ s : ByteArray, s = strOfNums (zh s) := fun s => (xq s).symm
  have hsz : ∀ xs ys : List Int, (strOfNums xs ++ strOfNums ys).size = xs.length + ys.length := fun xs ys => by rw [ze, strOfNums_size, List.length_append]
  rw [e1, e2, z8 (by omega) (by omega)]
  have e5 : strOfNums acc ++ strOfNums (uv 10 (c.f0.size : Int)) ++ c.f0 = strOfNums (acc ++ uv 10 (c.f0.size : Int) ++ zh c.f0) := by
   rw [← ze, ← ze, xq]
  rw [e5]
  by_cases hf : c.f2 = true
  · rw [if_pos hf]
    have e3 : colE c = uv 10 (c.f0.size : Int) ++ zh c.f0 ++ [c.f1 + 4] := by unfold colE; rw [if_pos hf]
    rw [e3];rw [if_pos (by rw [strOfNums_size, strOfNums_size]; omega), if_pos (by rw [hsz]; omega), if_pos (by rw [strOfNums_size, strOfNums_size]; simp only [List.length_append, zm, List.length_cons, List.length_nil]; omega), ze];simp only [List.append_assoc]
    rfl
  · rw [if_neg hf]
    have e3 : colE c = uv 10 (c.f0.size : Int) ++ zh c.f0 ++ [c.f1] := by unfold colE; rw [if_neg hf]
    rw [e3];rw [if_pos (by rw [strOfNums_size, strOfNums_size]; omega), if_pos (by rw [hsz]; omega), if_pos (by rw [strOfNums_size, strOfNums_size]; simp only [List.length_append, zm, List.length_cons, List.length_nil]; omega), ze];simp only [List.append_assoc]
    rfl
theorem ref_enc (nm : ByteArray) (num : Int) (cols : List S49) (key : List Int) (hn : num ≤ 9223372036854775807) :
 Ev (fun k => qk.f k nm num cols key) (encR nm num cols key) := by
 unfold qk.f encR;refine Ev.bind (ref_isTab nm num cols key) ?_
 cases ht : xy nm num cols key with
 | false => exact Ev.congr (fun k => by rw [if_neg (by simp)]; rfl) (Ev.now _)
 | true =>
  rw [if_pos rfl];unfold xy lens at ht;simp only [Bool.and_eq_true, decide_eq_true_eq] at ht;obtain ⟨⟨_, hn2, hn1, _, hc16, _, hk8⟩, hcols, hkeys, hdup1, hdup2⟩ := ht;have hu1 := zZ 10 num;have hu2 := zZ 10 (cols.length : Int);have h0 := ref_enc_l0 nm num cols key hc16 hcols hk8 (key_in hc16 hkeys) hn2 cols.length 0 (by omega) (uv 10 num ++ uv 10 (cols.length : Int)) (by rw [List.length_append]; omega);rw [List.drop_zero] at h0;refine Ev.congr (fun k => ?_) h0;rw [if_pos rfl, xU (by omega) (by omega), uvar_ref _ (by omega) (by omega), xU (by omega) (by omega), uvar_ref _ (by omega) (by omega)];simp only [Option.bind_some];rw [if_pos (by rw [strOfNums_size, strOfNums_size]; omega), ze]
  rfl
end Go.Proofs.YtggbhdcgfnjogaaGreatDoor.PlanLaw

