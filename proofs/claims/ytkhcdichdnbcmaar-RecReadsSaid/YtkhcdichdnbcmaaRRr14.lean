/- Texts of this session, merged (wip/gen/shake.py). -/
import Derived.Test.YtkhcdichdnbcmaaRRr10
import Derived.Test.YtkhcdichdnbcmaaRRr11
import Derived.Test.YtkhcdichdnbcmaaRRr12
import Derived.Test.YtkhcdichdnbcmaaRRr13
section
namespace Go.Proofs.YtkhcdichdnbcmaaR
open Go.RowKit Go.Proofs.YtkhcdichdnbcmaaR Go.Proofs.YtkhcdichdnbcmaaR.Ext Go.Proofs.YtkhcdichdnbcmaaR.C Go.Proofs.YtkhcdichdnbcmaaR.Sp Go.Proofs.YtkhcdichdnbcmaaRW.PrintWords Go.Proofs.YtkhcdichdnbcmaaRW.PrintLast
set_option linter.unusedVariables false
set_option linter.unusedSimpArgs false
set_option maxRecDepth 100000 in
set_option maxHeartbeats 8000000 in
theorem rdec15 {w0 w : World} {L : List HP} (l : List UInt8) (kind f : Int) (us : Nat → Bool) (hasS hasC good : Bool) (R RR : Nat → List UInt8) (nn ne : Nat → Int) (cs : Nat → Array Value) (e id task tick wait pid nonce : Int)
  (a b c d er3 : Int) (ps : List Int) (ts : List TX) (r3 : List UInt8) (cd er4 : Int) (r4 : List UInt8) (E : Int) (Q : Ending → World → Prop) (hk : 0 ≤ kind ∧ kind ≤ 9)
  (H1 : Unv w0 l kind (R 0) 0) (hU : ∀ W M, St w0 W M → Calls Try.prog 36 #[.int .u8 kind] W fun ee w' => ee = .returned (.int .i64 f) ∧ St w0 w' M)
  (hC : AndB f 256 hasC) (hS : AndB f 2 hasS) (hSC : hasS = true → hasC = false) (hB : ∀ j, j < 7 → AndB f (bitJ j) (us j))
  (hUn : ∀ j, j < 7 → us j = true → (0 ≤ nn j ∧ nn j < 18446744073709551616) ∧ Unv w0 (R j) (nn j) (RR j) (ne j))
  (hR : ∀ j, j < 7 → R (j + 1) = if us j = true then RR j else R j)
  (hcs0 : cs 0 = #[.int .u8 kind, .int .i64 0, .int .i64 0, .int .i64 0, .int .i64 0, .int .i64 0, .slice none 0 0, .slice none 0 0, .int .i64 0, .int .i64 0, .int .i64 0, .int .i64 0, .int .i64 0, .int .i64 0, .int .i64 0]) (hcs : ∀ j, j < 7 → cs (j + 1) = if us j = true then (cs j).setIfInBounds (offJ j) (.int .i64 (nn j)) else cs j) (hcell : ∀ j, j < 7 → ∃ x, (cs j)[offJ j]? = some (.int .i64 x))
  (hcs7 : cs 7 = #[.int .u8 kind, .int .i64 e, .int .i64 0, .int .i64 0, .int .i64 0, .int .i64 0, .slice none 0 0, .slice none 0 0, .int .i64 id, .int .i64 task, .int .i64 tick, .int .i64 wait, .int .i64 pid, .int .i64 nonce, .int .i64 0])
  (hg1 : ∀ j, j < 7 → us j = true → (ne j ≠ 0 ∨ mostJ j < nn j) → good = false)
  (hD : hasS = true → ∀ W M, St w0 W M → Calls Try.prog 44 #[.string (YtkhcdichdnbcmaaR.Ext.mkB (R 7))] W fun ee w' => ∃ A B p q n m, ee = .returned (.tuple #[.agg #[.int .i64 a, .int .i64 b, .int .i64 c, .int .i64 d, .slice A n p, .slice B m q], .string (YtkhcdichdnbcmaaR.Ext.mkB r3), .int .i64 er3]) ∧ St w0 w' (RI (.slice A n p) ps :: RT (.slice B m q) ts :: M))
  (hI : hasC = true → Uni w0 (R 7) cd r4 er4) (hcd : hasC = false → cd = 0)
  (hg2 : hasS = true → er3 ≠ 0 ∨ r3 ≠ [] → good = false) (hg3 : hasC = true → er4 ≠ 0 ∨ r4 ≠ [] → good = false) (hg4 : hasS = false → hasC = false → R 7 ≠ [] → good = false)
  (hK1 : hasS = true → er3 = 0 → ∀ W M A B n m p q, St w0 W (RI (.slice A n p) ps :: RT (.slice B m q) ts :: M) → Calls Try.prog 28 #[.agg #[.int .u8 kind, .int .i64 e, .int .i64 a, .int .i64 b, .int .i64 c, .int .i64 d, .slice A n p, .slice B m q, .int .i64 id, .int .i64 task, .int .i64 tick, .int .i64 wait, .int .i64 pid, .int .i64 nonce, .int .i64 0]] W fun ee w' => ee = .returned (.int .i64 E) ∧ St w0 w' (RI (.slice A n p) ps :: RT (.slice B m q) ts :: M))
  (hK2 : hasS = false → ∀ W M, St w0 W M → Calls Try.prog 28 #[.agg #[.int .u8 kind, .int .i64 e, .int .i64 0, .int .i64 0, .int .i64 0, .int .i64 0, .slice none 0 0, .slice none 0 0, .int .i64 id, .int .i64 task, .int .i64 tick, .int .i64 wait, .int .i64 pid, .int .i64 nonce, .int .i64 cd]] W fun ee w' => ee = .returned (.int .i64 E) ∧ St w0 w' M)
  (hg5 : E ≠ 0 → good = false)
  (hbad : good = false → ∀ w', St w0 w' L → Q (.returned (.tuple #[.agg #[.int .u8 0, .int .i64 0, .int .i64 0, .int .i64 0, .int .i64 0, .int .i64 0, .slice none 0 0, .slice none 0 0, .int .i64 0, .int .i64 0, .int .i64 0, .int .i64 0, .int .i64 0, .int .i64 0, .int .i64 0], .int .i64 4])) w')
  (hokS : (∀ j, j < 7 → us j = true → ne j = 0 ∧ nn j ≤ mostJ j) → hasS = true → er3 = 0 → r3 = [] → E = 0 → ∀ w' A B n m p q, St w0 w' (RI (.slice A n p) ps :: RT (.slice B m q) ts :: L) → Q (.returned (.tuple #[.agg #[.int .u8 kind, .int .i64 e, .int .i64 a, .int .i64 b, .int .i64 c, .int .i64 d, .slice A n p, .slice B m q, .int .i64 id, .int .i64 task, .int .i64 tick, .int .i64 wait, .int .i64 pid, .int .i64 nonce, .int .i64 0], .int .i64 0])) w')
  (hokN : (∀ j, j < 7 → us j = true → ne j = 0 ∧ nn j ≤ mostJ j) → hasS = false → (hasC = true → er4 = 0 ∧ r4 = []) → (hasC = false → R 7 = []) → E = 0 → ∀ w', St w0 w' L → Q (.returned (.tuple #[.agg #[.int .u8 kind, .int .i64 e, .int .i64 0, .int .i64 0, .int .i64 0, .int .i64 0, .slice none 0 0, .slice none 0 0, .int .i64 id, .int .i64 task, .int .i64 tick, .int .i64 wait, .int .i64 pid, .int .i64 nonce, .int .i64 cd], .int .i64 0])) w')
  (h : St w0 w L) : Calls Try.prog 23 #[.string (YtkhcdichdnbcmaaR.Ext.mkB l)] w Q := by
 cases hasS with
 | false =>
  cases hasC with
  | false => exact rdec15_N l kind f us false false good R RR nn ne cs e id task tick wait pid nonce a b c d er3 ps ts r3 cd er4 r4 E Q hk H1 hU hC hS hSC ⟨rfl, rfl⟩ hB hUn hR hcs0 hcs hcell hcs7 hg1 hD hI hcd hg2 hg3 hg4 hK1 hK2 hg5 hbad hokS hokN h
  | true => exact rdec15_C l kind f us false true good R RR nn ne cs e id task tick wait pid nonce a b c d er3 ps ts r3 cd er4 r4 E Q hk H1 hU hC hS hSC ⟨rfl, rfl⟩ hB hUn hR hcs0 hcs hcell hcs7 hg1 hD hI hcd hg2 hg3 hg4 hK1 hK2 hg5 hbad hokS hokN h
 | true =>
  have hq := hSC rfl
  subst hq
  exact rdec15_S l kind f us true false good R RR nn ne cs e id task tick wait pid nonce a b c d er3 ps ts r3 cd er4 r4 E Q hk H1 hU hC hS hSC ⟨rfl, rfl⟩ hB hUn hR hcs0 hcs hcell hcs7 hg1 hD hI hcd hg2 hg3 hg4 hK1 hK2 hg5 hbad hokS hokN h
end Go.Proofs.YtkhcdichdnbcmaaR
end
section
namespace Go.Proofs.YtkhcdichdnbcmaaR.Sp
open Go.Proofs.YtkhcdichdnbcmaaR.Pk
set_option linter.unusedVariables false
set_option linter.unusedSimpArgs false
def unvT (l : List UInt8) : Int × List UInt8 × Int := match unvarL l with | none => (0, [], 4) | some (n, r) => ((n : Int), r, 0)
def uniT (l : List UInt8) : Int × List UInt8 × Int := match unvarL l with | none => (0, [], 4) | some (n, r) => (unzig n, r, 0)
theorem unvT_bd (l : List UInt8) : 0 ≤ (unvT l).1 ∧ (unvT l).1 < 18446744073709551616 := by
 unfold unvT
 split
 ·simp
 ·rename_i n r h
  have := (var_unvar h).2
  simp only
  omega
theorem numL_T (m : Int) (h0 : 0 ≤ m) (l : List UInt8) : numL m l = if (unvT l).2.2 = 0 ∧ (unvT l).1 ≤ m then some ((unvT l).1, (unvT l).2.1) else none := by
 unfold numL unvT
 cases h : unvarL l with
 | none => simp
 | some x => simp
def fT : List (Bool × Int) → List UInt8 → List Int × List UInt8 × Bool
 | [], l => ([], l, true)
 | (u, m) :: t, l => if u = true then ((unvT l).1 :: (fT t (unvT l).2.1).1, (fT t (unvT l).2.1).2.1, decide ((unvT l).2.2 = 0 ∧ (unvT l).1 ≤ m) && (fT t (unvT l).2.1).2.2) else (0 :: (fT t l).1, (fT t l).2.1, (fT t l).2.2)
theorem fP_T (s : List (Bool × Int)) (hs : ∀ x ∈ s, 0 ≤ x.2) : ∀ l, fP s l = if (fT s l).2.2 = true then some ((fT s l).1, (fT s l).2.1) else none := by
 induction s with
 | nil => intro l; rfl
 | cons x t ih =>
  obtain ⟨u, m⟩ := x
  have ih := ih (fun x hx => hs x (List.mem_cons_of_mem _ hx))
  have hm : 0 ≤ m := hs (u, m) (List.mem_cons_self ..)
  intro l
  cases u with
  | true =>
   simp only [fP, fT, if_true]
   rw [numL_T m hm l]
   by_cases hc : (unvT l).2.2 = 0 ∧ (unvT l).1 ≤ m
   ·rw [if_pos hc, Option.bind_some, ih]
    simp only [hc, and_self, decide_true, Bool.true_and]
    split <;> rfl
   ·rw [if_neg hc]
    simp [hc]
  | false =>
   simp only [fP, fT, Bool.false_eq_true, if_false]
   rw [ih]
   split <;> rfl
theorem fT_append (t : List (Bool × Int)) : ∀ (s : List (Bool × Int)) (l : List UInt8), fT (s ++ t) l = ((fT s l).1 ++ (fT t (fT s l).2.1).1, (fT t (fT s l).2.1).2.1, (fT s l).2.2 && (fT t (fT s l).2.1).2.2)
 | [], l => by simp [fT]
 | (u, m) :: s, l => by
  cases u with
  | true => simp only [List.cons_append, fT, if_true, fT_append t s, Bool.and_assoc]
  | false => simp only [List.cons_append, fT, Bool.false_eq_true, if_false, fT_append t s]
end Go.Proofs.YtkhcdichdnbcmaaR.Sp
namespace Go.Proofs.YtkhcdichdnbcmaaR
open Go.RowKit Go.Proofs.YtkhcdichdnbcmaaR Go.Proofs.YtkhcdichdnbcmaaR.Ext Go.Proofs.YtkhcdichdnbcmaaR.C Go.Proofs.YtkhcdichdnbcmaaR.Sp Go.Proofs.YtkhcdichdnbcmaaRW.PrintWords Go.Proofs.YtkhcdichdnbcmaaRW.PrintLast
set_option linter.unusedVariables false
set_option linter.unusedSimpArgs false
theorem take_s (k : Int) (j : Nat) (hj : j < 7) : (fldK k).take (j + 1) = (fldK k).take j ++ [(usJ k j, mostJ j)] := by
 have h := (all7 fun j => (fldK k).take (j + 1) = (fldK k).take j ++ [(usJ k j, mostJ j)]).2
 refine h ?_ j hj
 unfold fldK usJ mostJ
 obtain ⟨a, b, c, d, e, f, g, hu⟩ := seven (usesB_len k)
 rw [hu]
 exact ⟨rfl, rfl, rfl, rfl, rfl, rfl, rfl⟩
theorem take_7 (k : Int) : (fldK k).take 7 = fldK k := List.take_of_length_le (by rw [fldK_len]; exact Nat.le_refl _)
def restJ (k : Int) (l : List UInt8) (j : Nat) : List UInt8 := (fT ((fldK k).take j) l).2.1
def numJ (k : Int) (l : List UInt8) (j : Nat) : Int × List UInt8 × Int := unvT (restJ k l j)
def valJ (k : Int) (l : List UInt8) (j : Nat) : Int := if usJ k j = true then (numJ k l j).1 else 0
theorem restJ_s (k : Int) (l : List UInt8) (j : Nat) (hj : j < 7) : restJ k l (j + 1) = if usJ k j = true then (numJ k l j).2.1 else restJ k l j := by
 unfold restJ numJ
 rw [take_s k j hj, fT_append]
 unfold restJ
 cases hu : usJ k j <;> simp [fT]
theorem okJ (k : Int) (l : List UInt8) : ∀ j, j ≤ 7 → ((fT ((fldK k).take j) l).2.2 = true ↔ ∀ i, i < j → usJ k i = true → (numJ k l i).2.2 = 0 ∧ (numJ k l i).1 ≤ mostJ i)
 | 0, _ => by simp [fT]
 | j + 1, hj => by
  rw [take_s k j (by omega), fT_append]
  simp only [Bool.and_eq_true]
  rw [okJ k l j (by omega)]
  have hl : (fT [(usJ k j, mostJ j)] (fT ((fldK k).take j) l).2.1).2.2 = true ↔ (usJ k j = true → (numJ k l j).2.2 = 0 ∧ (numJ k l j).1 ≤ mostJ j) := by
   unfold numJ restJ
   cases hu : usJ k j <;> simp [fT]
  rw [hl]
  constructor
  ·rintro ⟨h1, h2⟩ i hi
   rcases Nat.lt_or_ge i j with h | h
   ·exact h1 i h
   ·obtain rfl : i = j := by omega
    exact h2
  ·intro h
   exact ⟨fun i hi => h i (by omega), h j (by omega)⟩
theorem valsJ (k : Int) (l : List UInt8) (j : Nat) (hj : j < 7) : (fT ((fldK k).take (j + 1)) l).1 = (fT ((fldK k).take j) l).1 ++ [valJ k l j] := by
 rw [take_s k j hj, fT_append]
 unfold valJ numJ restJ
 cases hu : usJ k j <;> simp [fT]
theorem vals7J (k : Int) (l : List UInt8) : (fT (fldK k) l).1 = [valJ k l 0, valJ k l 1, valJ k l 2, valJ k l 3, valJ k l 4, valJ k l 5, valJ k l 6] := by
 rw [← take_7, valsJ k l 6 (by omega), valsJ k l 5 (by omega), valsJ k l 4 (by omega), valsJ k l 3 (by omega), valsJ k l 2 (by omega), valsJ k l 1 (by omega), valsJ k l 0 (by omega)]
 simp [fT]
theorem most_nn (k : Int) : ∀ x ∈ fldK k, 0 ≤ x.2 := by
 intro x hx
 have : x.2 ∈ mostsR := (List.of_mem_zip (a := x.1) (b := x.2) hx).2
 simp only [mostsR, List.mem_cons, List.not_mem_nil, or_false] at this
 omega
def recJ (k : Int) (l : List UInt8) (s : SP) (cd : Int) : RE := ⟨k, valJ k l 0, s, valJ k l 1, valJ k l 2, valJ k l 3, valJ k l 4, valJ k l 5, valJ k l 6, cd⟩
theorem decRR_no {l : List UInt8} (h : numL 9 l = none) : decRR l = (zRE, 4) := by
 unfold decRR decRe rdRe wholeRP seqP headRP seqP
 rw [h]
 rfl
theorem decRR_at {l r1 : List UInt8} {k : Int} (h : numL 9 l = some (k, r1)) : decRR l = if (fT (fldK k) r1).2.2 = true then (match tailRP k (restJ k r1 7) with | some (x, r) => if recE (recJ k r1 x.1 x.2) = 0 ∧ r = [] then (recJ k r1 x.1 x.2, 0) else (zRE, (4 : Int)) | none => (zRE, (4 : Int))) else (zRE, (4 : Int)) := by
 unfold decRR decRe rdRe wholeRP seqP headRP seqP restJ
 rw [h, Option.bind_some]
 show (match (Option.map (fun x => (toRE x.fst, x.snd)) ((Option.map (fun y => ((k, y.fst), y.snd)) (fP (fldK k) r1)).bind fun x => Option.map (fun y => ((x.fst, y.fst), y.snd)) (tailRP x.fst.fst x.snd))).bind fun x => if okRe x.fst = true then some x else none with | some (r, []) => (r, (0 : Int)) | x => (zRE, 4)) = _
 rw [fP_T _ (most_nn k), take_7]
 by_cases ho : (fT (fldK k) r1).2.2 = true
 ·rw [if_pos ho, if_pos ho]
  simp only [Option.map_some, Option.bind_some]
  cases ht : tailRP k (fT (fldK k) r1).2.1 with
  | none => rfl
  | some y =>
   obtain ⟨⟨sp, cd⟩, r⟩ := y
   simp only [Option.map_some, Option.bind_some]
   have hre : toRE ((k, (fT (fldK k) r1).1), (sp, cd)) = recJ k r1 sp cd := by rw [vals7J]; rfl
   rw [hre]
   unfold okRe
   by_cases hE : recE (recJ k r1 sp cd) = 0
   ·rw [if_pos (decide_eq_true hE)]
    cases r with
    | nil => rw [if_pos ⟨hE, rfl⟩]
    | cons a b => rw [if_neg (by simp)]
   ·rw [if_neg (by simpa using hE), if_neg (fun q => hE q.1)]
 ·rw [if_neg ho, if_neg ho]
  rfl
theorem unv_s {w0 : World} (l : List UInt8) : Unv w0 l (unvT l).1 (unvT l).2.1 (unvT l).2.2 := by
 intro W M h
 have q : pack_Unvar.f (YtkhcdichdnbcmaaR.Ext.mkB l) = some ((unvT l).1, YtkhcdichdnbcmaaR.Ext.mkB (unvT l).2.1, (unvT l).2.2) := by
  unfold pack_Unvar.f unvT Go.Proofs.YtkhcdichdnbcmaaR.Ext.unvarR
  rw [show (YtkhcdichdnbcmaaR.Ext.mkB l).data.toList = l from rfl]
  cases hu : Pk.unvarL l <;> rfl
 refine (pack_Unvar.calls _ _ _ _ W q).mono ?_
 rintro ee w' ⟨rfl, ⟨k, rfl⟩⟩
 exact ⟨rfl, h.drewN k⟩
theorem uni_s {w0 : World} (l : List UInt8) : Uni w0 l (uniT l).1 (uniT l).2.1 (uniT l).2.2 := by
 intro W M h
 have q : pack_Unint.f (YtkhcdichdnbcmaaR.Ext.mkB l) = some ((uniT l).1, YtkhcdichdnbcmaaR.Ext.mkB (uniT l).2.1, (uniT l).2.2) := by
  rw [PureC.unint_eq]
  unfold PureC.unintR uniT
  cases hu : Pk.unvarL l <;> rfl
 refine (pack_Unint.calls _ _ _ _ W q).mono ?_
 rintro ee w' ⟨rfl, ⟨k, rfl⟩⟩
 exact ⟨rfl, h.drewN k⟩
theorem rchk15_nil {w0 w : World} {L : List HP} (kind e id task tick wait pid nonce code : Int) (h : St w0 w L) (r : Int) (hr : recE ⟨kind, e, zSP, id, task, tick, wait, pid, nonce, code⟩ = r) :
  Calls Try.prog 28 #[.agg (Rec15 kind e 0 0 0 0 none 0 0 none 0 0 id task tick wait pid nonce code)] w fun ee w' => ee = .returned (.int .i64 r) ∧ St w0 w' L := by
 refine (rchk15_s kind e 0 0 0 0 id task tick wait pid nonce code [] [] (St.rowKNil (flat_int _) (St.rowKNil kX_flat h)) r hr).mono ?_
 rintro ee w' ⟨rfl, s⟩
 exact ⟨rfl, s.drop.drop⟩
theorem renc15_nil {w0 w : World} {L : List HP} (kind e id task tick wait pid nonce code : Int) (hcr : -9223372036854775808 ≤ code ∧ code ≤ 9223372036854775807) (h : St w0 w L) (x : List UInt8) (r : Int) (hx : encRR ⟨kind, e, zSP, id, task, tick, wait, pid, nonce, code⟩ = x) (hr : recE ⟨kind, e, zSP, id, task, tick, wait, pid, nonce, code⟩ = r) :
  Calls Try.prog 14 #[.agg (Rec15 kind e 0 0 0 0 none 0 0 none 0 0 id task tick wait pid nonce code)] w fun ee w' => ee = .returned (.tuple #[.string (YtkhcdichdnbcmaaR.Ext.mkB x), .int .i64 r]) ∧ St w0 w' L := by
 refine (renc15_s kind e 0 0 0 0 id task tick wait pid nonce code [] [] hcr (St.rowKNil (flat_int _) (St.rowKNil kX_flat h)) x r hx hr).mono ?_
 rintro ee w' ⟨rfl, s⟩
 exact ⟨rfl, s.drop.drop⟩
def Dec15 (w0 : World) (L : List HP) (x : RE) (er : Int) (ee : Ending) (w' : World) : Prop := ∃ A B n m p q, ee = .returned (.tuple #[.agg (Rec15 x.kind x.epoch x.spec.id x.spec.cpu x.spec.mem x.spec.disk A n p B m q x.id x.task x.tick x.wait x.pid x.nonce x.code), .int .i64 er]) ∧ St w0 w' (RI (.slice A n p) x.spec.ports :: RT (.slice B m q) (x.spec.tasks.map ofTS) :: L)
def csJ (k : Int) (l : List UInt8) (j : Nat) : Array Value := Rec15 k (if 0 < j then valJ k l 0 else 0) 0 0 0 0 none 0 0 none 0 0 (if 1 < j then valJ k l 1 else 0) (if 2 < j then valJ k l 2 else 0) (if 3 < j then valJ k l 3 else 0) (if 4 < j then valJ k l 4 else 0) (if 5 < j then valJ k l 5 else 0) (if 6 < j then valJ k l 6 else 0) 0
theorem csJ_s (k : Int) (l : List UInt8) : ∀ j, j < 7 → csJ k l (j + 1) = if usJ k j = true then (csJ k l j).setIfInBounds (offJ j) (.int .i64 (numJ k l j).1) else csJ k l j := by
 rw [all7]
 refine ⟨?_, ?_, ?_, ?_, ?_, ?_, ?_⟩
 all_goals
  split
  ·rename_i hu
   simp [csJ, Rec15, offJ, valJ, hu]
  ·rename_i hu
   simp [csJ, Rec15, offJ, valJ, hu]
theorem csJ_at (k : Int) (l : List UInt8) : ∀ j, j < 7 → ∃ x, (csJ k l j)[offJ j]? = some (.int .i64 x) := by
 rw [all7]
 exact ⟨⟨_, rfl⟩, ⟨_, rfl⟩, ⟨_, rfl⟩, ⟨_, rfl⟩, ⟨_, rfl⟩, ⟨_, rfl⟩, ⟨_, rfl⟩⟩
theorem and_any (k : Int) (h : 0 ≤ k ∧ k ≤ 9) : AndB (usesF k) 256 (decide (k = 8)) ∧ AndB (usesF k) 2 (decide (k = 1)) ∧ ∀ j, j < 7 → AndB (usesF k) (bitJ j) (usJ k j) := by
 by_cases h0 : k = 0
 ·subst h0
  rw [all7]
  exact ⟨by unfold AndB; decide +kernel, by unfold AndB; decide +kernel, by unfold AndB; decide +kernel, by unfold AndB; decide +kernel, by unfold AndB; decide +kernel, by unfold AndB; decide +kernel, by unfold AndB; decide +kernel, by unfold AndB; decide +kernel, by unfold AndB; decide +kernel⟩
 ·exact (and_all k (by omega)).2
theorem dec15 {w0 w : World} {L : List HP} (l : List UInt8) (x : RE) (er : Int) (hx : decRR l = (x, er)) (h : St w0 w L) : Calls Try.prog 23 #[.string (YtkhcdichdnbcmaaR.Ext.mkB l)] w (Dec15 w0 L x er) := by
 have hz : ∀ {ee : Ending} {w' : World}, ee = .returned (.tuple #[.agg (Rec15 0 0 0 0 0 0 none 0 0 none 0 0 0 0 0 0 0 0 0), .int .i64 4]) ∧ St w0 w' L → Dec15 w0 L zRE 4 ee w' := by
  rintro ee w' ⟨rfl, s⟩
  exact ⟨none, none, 0, 0, 0, 0, rfl, St.rowKNil (flat_int _) (St.rowKNil kX_flat s)⟩
 have h9 := numL_T 9 (by omega) l
 by_cases hk : (unvT l).2.2 = 0 ∧ (unvT l).1 ≤ 9
 case neg =>
  rw [if_neg hk] at h9
  rw [decRR_no h9] at hx
  obtain ⟨rfl, rfl⟩ := Prod.mk.inj hx
  exact (rdec_k l _ _ _ (by omega) (unv_s l) h).mono fun _ _ => hz
 rw [if_pos hk] at h9
 have hx2 := decRR_at h9
 rw [hx] at hx2
 have hb := unvT_bd l
 have hu := unv_s (w0 := w0) l
 rw [hk.1] at hu
 generalize hkd : (unvT l).1 = k at *
 generalize hr1 : (unvT l).2.1 = r1 at *
 obtain ⟨hC, hS, hB⟩ := and_any k ⟨hb.1, hk.2⟩
 -- the specification
 obtain ⟨⟨⟨sa, sb, sc, sd, sps, sts⟩, r3, er3⟩, hD⟩ : ∃ y, decR (restJ k r1 7) = y := ⟨_, rfl⟩
 have hDS : er3 = 0 → decS (restJ k r1 7) = some (⟨sa, sb, sc, sd, sps, sts⟩, r3) := by
  unfold decR at hD
  cases hq : decS (restJ k r1 7) with
  | none => rw [hq] at hD; intro q; subst q; simp at hD
  | some y =>
   obtain ⟨s, r⟩ := y
   rw [hq] at hD
   simp only [Prod.mk.injEq] at hD
   intro _
   rw [hD.1, hD.2.1]
 have hDN : er3 ≠ 0 → decS (restJ k r1 7) = none := by
  unfold decR at hD
  cases hq : decS (restJ k r1 7) with
  | none => exact fun _ => rfl
  | some y =>
   obtain ⟨s, r⟩ := y
   rw [hq] at hD
   simp only [Prod.mk.injEq] at hD
   intro q; exact absurd hD.2.2.symm q
 have hback : spOf sa sb sc sd sps (sts.map ofTS) = ⟨sa, sb, sc, sd, sps, sts⟩ := spOf_of ⟨sa, sb, sc, sd, sps, sts⟩
 obtain ⟨cd, hcd⟩ : ∃ cd, cd = if k = 8 then (uniT (restJ k r1 7)).1 else 0 := ⟨_, rfl⟩
 have htail : tailRP k (restJ k r1 7) = if k = 1 then (if er3 = 0 then some ((⟨sa, sb, sc, sd, sps, sts⟩, 0), r3) else none) else if k = 8 then (if (uniT (restJ k r1 7)).2.2 = 0 then some ((zSP, cd), (uniT (restJ k r1 7)).2.1) else none) else some ((zSP, cd), restJ k r1 7) := by
  unfold tailRP
  by_cases h1 : k = 1
  ·rw [if_pos h1, if_pos h1]
   by_cases he : er3 = 0
   ·rw [hDS he, if_pos he]; rfl
   ·rw [hDN he, if_neg he]; rfl
  ·rw [if_neg h1, if_neg h1]
   by_cases h8 : k = 8
   ·rw [if_pos h8, if_pos h8, hcd, if_pos h8]
    unfold unintL uniT
    cases hq : Pk.unvarL (restJ k r1 7) with
    | none => simp
    | some y => simp
   ·rw [if_neg h8, if_neg h8, hcd, if_neg h8]
 have hS1 : decide (k = 1) = true → k = 1 := fun q => of_decide_eq_true q
 have hC1 : decide (k = 8) = true → k = 8 := fun q => of_decide_eq_true q
 have hS0 : decide (k = 1) = false → ¬ k = 1 := fun q => of_decide_eq_false q
 have hC0 : decide (k = 8) = false → ¬ k = 8 := fun q => of_decide_eq_false q
 have hok : (fT (fldK k) r1).2.2 = true ↔ ∀ i, i < 7 → usJ k i = true → (numJ k r1 i).2.2 = 0 ∧ (numJ k r1 i).1 ≤ mostJ i := by
  have := okJ k r1 7 (Nat.le_refl _)
  rwa [take_7] at this
 have hbadE : ∀ s c r, tailRP k (restJ k r1 7) = some ((s, c), r) → (recE (recJ k r1 s c) ≠ 0 ∨ r ≠ []) → decide (er = 0) = false := by
  intro s c r ht hq
  rw [ht] at hx2
  refine decide_eq_false ?_
  have h4 : (x, er) = (zRE, (4 : Int)) := by
   rw [hx2]
   split
   ·show (if recE (recJ k r1 s c) = 0 ∧ r = [] then (recJ k r1 s c, (0 : Int)) else (zRE, 4)) = _
    rw [if_neg]
    rintro ⟨q1, q2⟩
    exact hq.elim (fun z => z q1) (fun z => z q2)
   ·rfl
  obtain ⟨-, rfl⟩ := Prod.mk.inj h4
  decide
 have hbadN : tailRP k (restJ k r1 7) = none → decide (er = 0) = false := by
  intro ht
  rw [ht] at hx2
  refine decide_eq_false ?_
  have h4 : (x, er) = (zRE, (4 : Int)) := by rw [hx2]; split <;> rfl
  obtain ⟨-, rfl⟩ := Prod.mk.inj h4
  decide
 obtain ⟨E, hE⟩ : ∃ E, E = if k = 1 then recE (recJ k r1 ⟨sa, sb, sc, sd, sps, sts⟩ 0) else recE (recJ k r1 zSP cd) := ⟨_, rfl⟩
 refine rdec15 l k (usesF k) (usJ k) (decide (k = 1)) (decide (k = 8)) (decide (er = 0)) (restJ k r1) (fun j => (numJ k r1 j).2.1) (fun j => (numJ k r1 j).1) (fun j => (numJ k r1 j).2.2) (csJ k r1) (valJ k r1 0) (valJ k r1 1) (valJ k r1 2) (valJ k r1 3) (valJ k r1 4) (valJ k r1 5) (valJ k r1 6)
  sa sb sc sd er3 sps (sts.map ofTS) r3 cd (uniT (restJ k r1 7)).2.2 (uniT (restJ k r1 7)).2.1 E (Dec15 w0 L x er) ⟨hb.1, hk.2⟩ ?_ (uses_s k) hC hS ?_ hB ?_ ?_ rfl (csJ_s k r1) (csJ_at k r1) rfl ?_ ?_ ?_ ?_ ?_ ?_ ?_ ?_ ?_ ?_ ?_ ?_ ?_ h
 ·exact hu
 ·intro q; rw [hS1 q]; decide
 ·intro j hj hju
  exact ⟨unvT_bd _, unv_s _⟩
 ·intro j hj; exact restJ_s k r1 j hj
 ·intro j hj hju hq
  refine decide_eq_false ?_
  rw [if_neg] at hx2
  ·obtain ⟨-, rfl⟩ := Prod.mk.inj hx2
   decide
  ·intro q
   have := hok.1 q j hj hju
   omega
 ·intro _ W M hs
  exact dec_s _ _ _ _ _ _ _ _ _ hD hs
 ·intro q
  rw [hcd, if_pos (hC1 q)]
  exact uni_s _
 ·intro q; rw [hcd, if_neg (hC0 q)]
 ·intro q hq
  rw [if_pos (hS1 q)] at htail
  by_cases he : er3 = 0
  ·rw [if_pos he] at htail
   exact hbadE _ _ _ htail (.inr (hq.resolve_left (fun z => z he)))
  ·rw [if_neg he] at htail
   exact hbadN htail
 ·intro q hq
  rw [if_neg (by rw [hC1 q]; decide), if_pos (hC1 q)] at htail
  by_cases he : (uniT (restJ k r1 7)).2.2 = 0
  ·rw [if_pos he] at htail
   exact hbadE _ _ _ htail (.inr (hq.resolve_left (fun z => z he)))
  ·rw [if_neg he] at htail
   exact hbadN htail
 ·intro q1 q2 hq
  rw [if_neg (hS0 q1), if_neg (hC0 q2)] at htail
  exact hbadE _ _ _ htail (.inr hq)
 ·intro q he W M A B n m p q' hs
  exact rchk15_s k _ sa sb sc sd _ _ _ _ _ _ 0 sps (sts.map ofTS) hs E (by rw [hE, if_pos (hS1 q), hback]; rfl)
 ·intro q W M hs
  exact rchk15_nil k _ _ _ _ _ _ _ cd hs E (by rw [hE, if_neg (hS0 q)]; rfl)
 ·intro hEn
  by_cases h1 : k = 1
  ·rw [if_pos h1] at htail hE
   by_cases he : er3 = 0
   ·rw [if_pos he] at htail
    exact hbadE _ _ _ htail (.inl (by rw [← hE]; exact hEn))
   ·rw [if_neg he] at htail
    exact hbadN htail
  ·rw [if_neg h1] at htail hE
   by_cases h8 : k = 8
   ·rw [if_pos h8] at htail
    by_cases he : (uniT (restJ k r1 7)).2.2 = 0
    ·rw [if_pos he] at htail
     exact hbadE _ _ _ htail (.inl (by rw [← hE]; exact hEn))
    ·rw [if_neg he] at htail
     exact hbadN htail
   ·rw [if_neg h8] at htail
    exact hbadE _ _ _ htail (.inl (by rw [← hE]; exact hEn))
 ·intro q w' s
  have h4 := decRR_err l (by rw [hx]; exact of_decide_eq_false q)
  rw [hx] at h4
  obtain ⟨rfl, rfl⟩ := Prod.mk.inj h4
  exact hz ⟨rfl, s⟩
 ·intro hall q he hr hE0 w' A B n m p q' s
  rw [if_pos (hS1 q), if_pos he] at htail
  rw [if_pos (hS1 q)] at hE
  rw [if_pos (hok.2 hall), htail] at hx2
  simp only at hx2
  rw [if_pos ⟨by rw [← hE]; exact hE0, hr⟩] at hx2
  obtain ⟨rfl, rfl⟩ := Prod.mk.inj hx2
  exact ⟨A, B, n, m, p, q', rfl, s⟩
 ·intro hall q hc hn hE0 w' s
  rw [if_neg (hS0 q)] at htail hE
  have hx3 : (x, er) = (recJ k r1 zSP cd, (0 : Int)) := by
   rw [if_pos (hok.2 hall)] at hx2
   by_cases h8 : k = 8
   ·rw [if_pos h8, if_pos (hc (decide_eq_true h8)).1] at htail
    rw [htail] at hx2
    simp only at hx2
    rw [if_pos ⟨by rw [← hE]; exact hE0, (hc (decide_eq_true h8)).2⟩] at hx2
    exact hx2
   ·rw [if_neg h8] at htail
    rw [htail] at hx2
    simp only at hx2
    rw [if_pos ⟨by rw [← hE]; exact hE0, hn (decide_eq_false h8)⟩] at hx2
    exact hx2
  obtain ⟨rfl, rfl⟩ := Prod.mk.inj hx3
  exact ⟨none, none, 0, 0, 0, 0, rfl, St.rowKNil (flat_int _) (St.rowKNil kX_flat s)⟩
end Go.Proofs.YtkhcdichdnbcmaaR
end
section
namespace Go.Proofs.YtkhcdichdnbcmaaR
open Go.RowKit Go.Proofs.YtkhcdichdnbcmaaR Go.Proofs.YtkhcdichdnbcmaaR.Ext Go.Proofs.YtkhcdichdnbcmaaR.C Go.Proofs.YtkhcdichdnbcmaaR.Sp Go.Proofs.YtkhcdichdnbcmaaRW.PrintWords Go.Proofs.YtkhcdichdnbcmaaRW.PrintLast
set_option linter.unusedVariables false
set_option linter.unusedSimpArgs false
theorem dec15c {w0 w : World} {L : List HP} (l : List UInt8) (kind e a b c d : Int) (ps : List Int) (ts : List TS) (id task tick wait pid nonce code er : Int) (hx : decRR l = (⟨kind, e, ⟨a, b, c, d, ps, ts⟩, id, task, tick, wait, pid, nonce, code⟩, er)) (h : St w0 w L) : Calls Try.prog 23 #[.string (YtkhcdichdnbcmaaR.Ext.mkB l)] w fun ee w' => ∃ A B n m p q, ee = .returned (.tuple #[.agg (Rec15 kind e a b c d A n p B m q id task tick wait pid nonce code), .int .i64 er]) ∧ St w0 w' (RI (.slice A n p) ps :: RT (.slice B m q) (ts.map ofTS) :: L) := dec15 l _ er hx h
theorem awr_enc : encRR ⟨4, 0, zSP, 7, 0, 3, 0, 0, 0, 0⟩ = [4, 7, 0, 3] := by decide +kernel
theorem awr_enc2 : encRR ⟨8, 0, zSP, 7, 1, 9, 0, 0, 0, -1⟩ = [8, 7, 1, 9, 1] := by decide +kernel
theorem awr_dec : decRR [4, 7, 0, 3] = (⟨4, 0, ⟨0, 0, 0, 0, [], []⟩, 7, 0, 3, 0, 0, 0, 0⟩, 0) := by decide +kernel
theorem awr_bad : decRR [4, 7, 0, 3, 120] = (⟨0, 0, ⟨0, 0, 0, 0, [], []⟩, 0, 0, 0, 0, 0, 0, 0⟩, 4) := by decide +kernel
theorem sv {w0 : World} (x : Int) (o : List UInt8) (h0 : 0 ≤ x) (h1 : x < 18446744073709551616) (ho : encN x = o) : Str w0 33 #[.int .u64 x] o := by subst ho; exact str_var x h0 h1
set_option maxRecDepth 100000 in
set_option maxHeartbeats 4000000 in
theorem awake17 {w0 w : World} {L : List HP} (h : St w0 w L) : Calls Try.prog 26 #[] w fun e w' => e = .returned (.bool true) ∧ St w0 w' L := by
 have hv4 := sv (w0 := w0) 4 [4] (by omega) (by omega) (by decide +kernel)
 have hv7 := sv (w0 := w0) 7 [7] (by omega) (by omega) (by decide +kernel)
 have hv0 := sv (w0 := w0) 0 [0] (by omega) (by omega) (by decide +kernel)
 have hv3 := sv (w0 := w0) 3 [3] (by omega) (by omega) (by decide +kernel)
 have hv8 := sv (w0 := w0) 8 [8] (by omega) (by omega) (by decide +kernel)
 have hv1 := sv (w0 := w0) 1 [1] (by omega) (by omega) (by decide +kernel)
 have hv9 := sv (w0 := w0) 9 [9] (by omega) (by omega) (by decide +kernel)
 have hvm : Str w0 38 #[.int .i64 (-1)] [1] := str_int (w0 := w0) (-1) (by omega) (by omega)
 have HV4 := Lib.hid hv4
 clear hv4
 have HV7 := Lib.hid hv7
 clear hv7
 have HV0 := Lib.hid hv0
 clear hv0
 have HV3 := Lib.hid hv3
 clear hv3
 have HV8 := Lib.hid hv8
 clear hv8
 have HV1 := Lib.hid hv1
 clear hv1
 have HV9 := Lib.hid hv9
 clear hv9
 have HVm := Lib.hid hvm
 clear hvm
 have hx1 : YtkhcdichdnbcmaaR.Ext.mkB [4, 7, 0, 3] ++ (⟨#[120]⟩ : ByteArray) = YtkhcdichdnbcmaaR.Ext.mkB [4, 7, 0, 3, 120] := rfl
 have hx2 : (YtkhcdichdnbcmaaR.Ext.mkB [4, 7, 0, 3]).size = 4 := rfl
 have hx3 : (⟨#[120]⟩ : ByteArray).size = 1 := rfl
 have hya1 : YtkhcdichdnbcmaaR.Ext.mkB [4] ++ YtkhcdichdnbcmaaR.Ext.mkB [7] = YtkhcdichdnbcmaaR.Ext.mkB [4, 7] := rfl
 have hya2 : YtkhcdichdnbcmaaR.Ext.mkB [4, 7] ++ YtkhcdichdnbcmaaR.Ext.mkB [0] = YtkhcdichdnbcmaaR.Ext.mkB [4, 7, 0] := rfl
 have hza2 : (YtkhcdichdnbcmaaR.Ext.mkB [4, 7]).size = 2 := rfl
 have hya3 : YtkhcdichdnbcmaaR.Ext.mkB [4, 7, 0] ++ YtkhcdichdnbcmaaR.Ext.mkB [3] = YtkhcdichdnbcmaaR.Ext.mkB [4, 7, 0, 3] := rfl
 have hza3 : (YtkhcdichdnbcmaaR.Ext.mkB [4, 7, 0]).size = 3 := rfl
 have hyb1 : YtkhcdichdnbcmaaR.Ext.mkB [8] ++ YtkhcdichdnbcmaaR.Ext.mkB [7] = YtkhcdichdnbcmaaR.Ext.mkB [8, 7] := rfl
 have hyb2 : YtkhcdichdnbcmaaR.Ext.mkB [8, 7] ++ YtkhcdichdnbcmaaR.Ext.mkB [1] = YtkhcdichdnbcmaaR.Ext.mkB [8, 7, 1] := rfl
 have hzb2 : (YtkhcdichdnbcmaaR.Ext.mkB [8, 7]).size = 2 := rfl
 have hyb3 : YtkhcdichdnbcmaaR.Ext.mkB [8, 7, 1] ++ YtkhcdichdnbcmaaR.Ext.mkB [9] = YtkhcdichdnbcmaaR.Ext.mkB [8, 7, 1, 9] := rfl
 have hzb3 : (YtkhcdichdnbcmaaR.Ext.mkB [8, 7, 1]).size = 3 := rfl
 have hyb4 : YtkhcdichdnbcmaaR.Ext.mkB [8, 7, 1, 9] ++ YtkhcdichdnbcmaaR.Ext.mkB [1] = YtkhcdichdnbcmaaR.Ext.mkB [8, 7, 1, 9, 1] := rfl
 have hzb4 : (YtkhcdichdnbcmaaR.Ext.mkB [8, 7, 1, 9]).size = 4 := rfl
 have hs4 : (YtkhcdichdnbcmaaR.Ext.mkB [4]).size = 1 := rfl
 have hs7 : (YtkhcdichdnbcmaaR.Ext.mkB [7]).size = 1 := rfl
 have hs0 : (YtkhcdichdnbcmaaR.Ext.mkB [0]).size = 1 := rfl
 have hs3 : (YtkhcdichdnbcmaaR.Ext.mkB [3]).size = 1 := rfl
 have hs8 : (YtkhcdichdnbcmaaR.Ext.mkB [8]).size = 1 := rfl
 have hs1 : (YtkhcdichdnbcmaaR.Ext.mkB [1]).size = 1 := rfl
 have hs9 : (YtkhcdichdnbcmaaR.Ext.mkB [9]).size = 1 := rfl
 have H := Lib.hid h
 clear h
 go_enter Try.func26, Try.ntmps26
 go_wp2_with fail
 refine (renc15_nil 4 0 7 0 3 0 0 0 0 (by omega) H.out _ 0 awr_enc (by decide +kernel)).mono ?_
 rintro ee w1 ⟨rfl, s1⟩
 clear H
 have S1 := Lib.hid s1
 clear s1
 go_wp2_with fail
 refine (renc15_nil 8 0 7 1 9 0 0 0 (-1) (by omega) S1.out _ 0 awr_enc2 (by decide +kernel)).mono ?_
 rintro ee w1' ⟨rfl, s1⟩
 clear S1
 have S1 := Lib.hid s1
 clear s1
 go_wp2_with fail
 refine (dec15c [4, 7, 0, 3] _ _ _ _ _ _ _ _ _ _ _ _ _ _ _ _ awr_dec S1.out).mono ?_
 rintro ee w2 ⟨A, B, n, m, p, q, rfl, s2⟩
 clear S1
 have s3 := s2.alloc #[.int .u8 4, .int .i64 0, .int .i64 0, .int .i64 0, .int .i64 0, .int .i64 0, .slice A n p, .slice B m q, .int .i64 7, .int .i64 0, .int .i64 3, .int .i64 0, .int .i64 0, .int .i64 0, .int .i64 0] tRe
 clear s2
 have S3 := Lib.hid s3
 clear s3
 go_wp2_with fail
 generalize w2.heap.size = b3 at *
 refine (dec15c [4, 7, 0, 3, 120] _ _ _ _ _ _ _ _ _ _ _ _ _ _ _ _ awr_bad S3.out).mono ?_
 rintro ee w3 ⟨A1, B1, n1, m1, p1, q1, rfl, s4⟩
 clear S3 hx1 hx2 hx3
 have s5 := (s4.drop.drop.alloc #[.int .u8 0, .int .i64 0, .int .i64 0, .int .i64 0, .int .i64 0, .int .i64 0, .slice A1 n1 p1, .slice B1 m1 q1, .int .i64 0, .int .i64 0, .int .i64 0, .int .i64 0, .int .i64 0, .int .i64 0, .int .i64 0] tRe).drop
 clear s4
 have S5 := Lib.hid s5
 clear s5
 go_wp2_with fail
 refine (HV4.out _ _ S5.out).mono ?_
 rintro ee x6 ⟨rfl, s⟩
 have S6 := Lib.hid s
 clear s S5
 go_wp2_with fail
 refine (HV7.out _ _ S6.out).mono ?_
 rintro ee x7 ⟨rfl, s⟩
 have S7 := Lib.hid s
 clear s S6
 go_wp2_with fail
 refine (HV0.out _ _ S7.out).mono ?_
 rintro ee x8 ⟨rfl, s⟩
 have S8 := Lib.hid s
 clear s S7
 go_wp2_with fail
 refine (HV3.out _ _ S8.out).mono ?_
 rintro ee x9 ⟨rfl, s⟩
 have S9 := Lib.hid s
 clear s S8
 go_wp2_with fail
 refine (HV8.out _ _ S9.out).mono ?_
 rintro ee x10 ⟨rfl, s⟩
 have S10 := Lib.hid s
 clear s S9
 go_wp2_with fail
 refine (HV7.out _ _ S10.out).mono ?_
 rintro ee x11 ⟨rfl, s⟩
 have S11 := Lib.hid s
 clear s S10
 go_wp2_with fail
 refine (HV1.out _ _ S11.out).mono ?_
 rintro ee x12 ⟨rfl, s⟩
 have S12 := Lib.hid s
 clear s S11
 go_wp2_with fail
 refine (HV9.out _ _ S12.out).mono ?_
 rintro ee x13 ⟨rfl, s⟩
 have S13 := Lib.hid s
 clear s S12
 go_wp2_with fail
 refine (HVm.out _ _ S13.out).mono ?_
 rintro ee x14 ⟨rfl, s⟩
 have S14 := Lib.hid s
 clear s S13
 have hc := S14.out.cells
 go_wp2_with fail
 have z1 := S14.out.pick 2
 simp only [List.getElem_cons_succ, List.getElem_cons_zero, List.eraseIdx_cons_succ, List.eraseIdx_cons_zero] at z1
 have z2 := z1.pick 2
 simp only [List.getElem_cons_succ, List.getElem_cons_zero, List.eraseIdx_cons_succ, List.eraseIdx_cons_zero] at z2
 refine (equ15_n 4 0 0 0 0 0 7 0 3 0 0 0 0 4 0 7 0 3 0 0 0 0 [] [] (by simp) (by simp) true (by decide +kernel) z2).mono ?_
 rintro ee w8 ⟨rfl, s14⟩
 clear z1 z2 S14 hc
 have S14 := Lib.hid s14.drop.drop.drop
 clear s14
 go_wp2_with fail
 refine (rchk15_nil 10 0 0 0 0 0 0 0 0 S14.out 2 (by decide +kernel)).mono ?_
 rintro ee y0 ⟨rfl, s⟩
 clear S14
 have S15 := Lib.hid s
 clear s
 go_wp2_with fail
 refine (rchk15_nil 9 0 1 0 0 0 0 0 0 S15.out 2 (by decide +kernel)).mono ?_
 rintro ee y1 ⟨rfl, s⟩
 clear S15
 have S16 := Lib.hid s
 clear s
 go_wp2_with fail
 refine (rchk15_nil 9 0 0 0 (-1) 0 0 0 0 S16.out 3 (by decide +kernel)).mono ?_
 rintro ee y2 ⟨rfl, s⟩
 clear S16
 have S17 := Lib.hid s
 clear s
 go_wp2_with fail
 refine (rchk15_nil 1 0 0 0 0 0 0 0 0 S17.out 2 (by decide +kernel)).mono ?_
 rintro ee y3 ⟨rfl, s⟩
 clear S17
 have S18 := Lib.hid s
 clear s
 go_wp2
 go_returns
 exact ⟨rfl, S18.out⟩
end Go.Proofs.YtkhcdichdnbcmaaR
end
