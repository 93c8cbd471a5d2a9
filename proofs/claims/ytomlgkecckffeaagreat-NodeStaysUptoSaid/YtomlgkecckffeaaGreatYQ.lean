/- NodeStays: the loops, walked. -/
import Derived.Test.YtomlgkecckffeaaGreatYP
import Derived.Test.YtomlgkecckffeaaGreatYD
set_option linter.unusedVariables false
set_option linter.unusedSimpArgs false
set_option maxRecDepth 10000
namespace Go.Proofs.YtomlgkecckffeaaGreat
open Go.VW
structure Seq (M : Mem) (i : Nat) : Prop where
 live : M.live = true
 at_ : M.g.at_ = i
 ws : M.g.ws = []
theorem Seq.next {M : Mem} {i : Nat} (h : Seq M i) (hi : i ≤ 2000000) {x : KRec} (hx : x.r.n = (i : Int) + 1) : (M.apply ((i : Int) + 1) x).1 = Mem.given { M with g := ⟨(i : Int) + 1, M.g.most, []⟩ } x ∧ Seq (M.apply ((i : Int) + 1) x).1 (i + 1) := by
 have e := apply_next (x := x) h.live (n := (i : Int) + 1) (by rw [h.at_]) h.ws (by omega)
 refine ⟨e, ?_⟩
 rw [e]
 exact ⟨h.live, by show (i : Int) + 1 = ((i + 1 : Nat) : Int); omega, rfl⟩
def cntL (past : List (List ByteArray)) (read i : Nat) : Nat := (((past.take i).drop read).map List.length).sum
theorem cnt_old {past : List (List ByteArray)} {read i : Nat} (h : i ≤ read) : cntL past read i = 0 := by
 unfold cntL
 rw [List.drop_of_length_le (by rw [List.length_take]; omega)]
 rfl
theorem cnt_next {past : List (List ByteArray)} {read i : Nat} {ks : List ByteArray} (h : read ≤ i) (hk : past[i]? = some ks) : cntL past read (i + 1) = cntL past read i + ks.length := by
 unfold cntL
 have hl := (List.getElem?_eq_some_iff.1 hk).1
 rw [List.take_add_one, hk, List.drop_append_of_le_length (by rw [List.length_take]; omega)]
 simp
theorem cnt_mono {past : List (List ByteArray)} {read i j : Nat} (h : i ≤ j) : cntL past read i ≤ cntL past read j := by
 unfold cntL
 have hp : (past.take i).drop read = ((past.take j).drop read).take (i - read) := by
  rw [List.take_drop]
  by_cases q : read ≤ i
  ·rw [show read + (i - read) = i by omega, List.take_take, Nat.min_eq_left h]
  ·rw [List.drop_of_length_le (by rw [List.length_take]; omega), List.drop_of_length_le (by rw [List.length_take]; omega)]
 rw [hp]
 have : ∀ (l : List (List ByteArray)) n, ((l.take n).map List.length).sum ≤ (l.map List.length).sum := fun l n => by
  have e := congrArg (fun l => (l.map List.length).sum) (List.take_append_drop n l)
  simp only [List.map_append, List.sum_append] at e
  omega
 exact this _ _
structure Pre (M : Mem) (past : List (List ByteArray)) (key : ByteArray) (read cap i : Nat) : Prop where
 seq : Seq M i
 emp : ∀ k, M.T.row k = []
 rp : RP M.R key i read (cntL past read i)
 cap : M.R.cap = cap
 last : M.R.last = i
theorem Pre.next {M : Mem} {past : List (List ByteArray)} {key : ByteArray} {read cap i : Nat} (h : Pre M past key read cap i) (hi : i ≤ 2000000) {x : KRec} (hx : x.r.n = (i : Int) + 1) (hk : past[i]? = some x.ks) (hc : read ≤ i → cntL past read (i + 1) ≤ cap ∧ ∀ k ∈ x.ks, k ≠ key) :
  Pre (M.apply ((i : Int) + 1) x).1 past key read cap (i + 1) := by
 obtain ⟨e, hs⟩ := h.seq.next hi hx
 refine ⟨hs, ?_, ?_, ?_, ?_⟩
 all_goals rw [e]
 ·intro k
  show (givT M x M.T x.ks).row k = []
  rw [givT_nil x.ks fun k _ => h.emp k]
  exact h.emp k
 all_goals
  have hl := h.last
  have hle : ((i + 1 : Nat) : Int) = (i : Int) + 1 := by omega
 ·show RP (M.R.note x.r.n x.ks) key ((i + 1 : Nat) : Int) read _
  rw [hx, hle]
  by_cases q : read ≤ i
  ·obtain ⟨q1, q2⟩ := hc q
   rw [cnt_next q hk] at q1 ⊢
   exact (h.rp.note_new (n' := (i : Int) + 1) (by omega) (by omega) (by omega) (by rw [h.cap]; exact q1) q2).1
  ·rw [cnt_old (by omega)]
   have := h.rp
   rw [cnt_old (by omega)] at this
   exact (this.note_old (n' := (i : Int) + 1) (by omega) (by omega) (by omega) (by omega) x.ks).1
 ·show (M.R.note x.r.n x.ks).cap = cap
  rw [hx, note_eq (by omega) (by omega), (puts_cap _ _ _).1]
  exact h.cap
 ·show (M.R.note x.r.n x.ks).last = _
  rw [hx, note_eq (by omega) (by omega), (puts_cap _ _ _).2, hle]
set_option maxHeartbeats 32000000 in
theorem stays_apply {W w : World} {a : Lay} {c : Cfg} {M : Mem} {v : Value} {vs : List Value} {past : List (List ByteArray)} {key : ByteArray} {read cap at_ p7 : Nat} {e : Env} {k : Env → World → Prop} {Q : Exit → Env → World → Prop} (h : NodeIn W w a c 1 M 0) (hc : CfgOK c) (hp : PastAt W v vs past)
  (g7 : W.heap[p7]? = some (.cells ([v] : List Value).toArray 58 (0, 0))) (hat : at_ ≤ past.length) (hpre : Pre M past key read cap 0) (hcnt : read < at_ → cntL past read at_ ≤ cap) (habs : ∀ (j : Nat) ks, read ≤ j → j < at_ → past[j]? = some ks → ∀ k ∈ ks, k ≠ key)
  (e7 : e 7 = .pointer (some ⟨p7, 0, none⟩)) (e15 : e 15 = .int .i64 at_) (e18 : e 18 = .pointer (some ⟨a.nb, 0, none⟩))
  (hK : ∀ e' w' S' M', NodeIn W w' { a with S := S' } c 1 M' 0 → Pre M' past key read cap at_ → e' 2 = e 2 → e' 5 = e 5 → e' 7 = e 7 → e' 13 = e 13 → e' 14 = e 14 → e' 15 = e 15 → e' 18 = e 18 → k e' w') :
  W3 Tryz.prog 192 V5 c5_38 (seqQ k Q) e w := by
 have cw := cur w
 have hle := hp.le
 rw [e7, e15, e18] at hK
 simp (disch:=first|assumption|(simp only[dz];first|done|assumption|omega)|omega) only [↓gd,gp,Nat.reduceAdd,Nat.reduceEqDiff, ↓hk5]
 refine for_intro at_ 19 0 (fun i e1 w' => ∃ S M', e1 2 = e 2 ∧ e1 5 = e 5 ∧ e1 7 = .pointer (some ⟨p7, 0, none⟩) ∧ e1 13 = e 13 ∧ e1 14 = e 14 ∧ e1 15 = .int .i64 at_ ∧ e1 18 = .pointer (some ⟨a.nb, 0, none⟩) ∧ NodeIn W w' { a with S := S } c 1 M' 0 ∧ Pre M' past key read cap i) ?_ (Nat.zero_le _) ?_ ?_
 ·simp (disch:=first|assumption|(simp only[dz];first|done|assumption|omega)|omega) only [↓gsd,gs,gv,Nat.reduceAdd,Nat.reduceEqDiff, Int.natCast_zero]
 ·refine ⟨a.S, M, ?_⟩
  simp (disch:=first|assumption|(simp only[dz];first|done|assumption|omega)|omega) only [↓gsd,gs,gv,Nat.reduceAdd,Nat.reduceEqDiff, e7, e15, e18]
  exact ⟨h, hpre⟩
 rintro i e1 w1 kk hi eS ⟨S, M1, r2, r5, r7, r13, r14, r15, r18, h1, hp1⟩ hkk
 have cw1 := cur w1
 by_cases hil : i < at_
 ·have d1 : decide ((i : Int) < (at_ : Int)) = true := decide_eq_true (by omega)
  have hpa := hp.frN h1.fr
  have g71 := h1.fr.getN g7
  obtain ⟨ks, hks⟩ : ∃ ks, past[i]? = some ks := ⟨past[i]'(by omega), List.getElem?_eq_getElem _⟩
  obtain ⟨vk, hvk⟩ : ∃ vk, vs[i]? = some vk := ⟨vs[i]'(by have := hp.len; omega), List.getElem?_eq_getElem _⟩
  have hsk := hpa.row i vk ks hvk hks
  have hkb := hp.bound ks (List.mem_of_getElem? hks)
  obtain ⟨ka, kc, hkf⟩ := hsk.form
  obtain ⟨b2, o2, p2, ob2, hv2, hb2, hbl2, _, hc2⟩ := hpa.sl.read (fun _ => rfl) i vk hvk
  have q2 := fun orig K => hc2 0 vk orig K rfl
  simp only [Nat.add_zero, Nat.mul_one] at q2
  have hil2 : i < vs.length := by have := hp.len; omega
  have i0 : (0 : Int) ≤ (i : Int) := by omega
  have i1 : (i : Int) < (vs.length : Int) := by omega
  have wi : IntKind.i64.wrap ((i : Int) + 1) = (i : Int) + 1 := wrap64 (by omega) (by omega)
  rw [hv2] at g71
  rw [hkf] at q2 hsk
  simp (disch:=first|assumption|(simp only[dz];first|done|assumption|omega)|omega) only [↓gd,gp,Nat.reduceAdd,Nat.reduceEqDiff, ↓hk5, r7, r15, r18, eS, d1, g71, i0, i1, Int.toNat_natCast, Nat.mul_one, hb2, q2, wi]
  refine apply_in (a := { a with S := S }) (x := ⟨⟨(i : Int) + 1, ka, ks.length, kc⟩, ks⟩) h1 hc hsk (by show ks.length ≤ _; omega) fun w2 S2 x' q3 q4 h2 => ?_
  have cw2 := cur w2
  have hp2 := hp1.next (x := x') (by omega) q3 (by rw [q4]; exact hks) (fun hr => ⟨Nat.le_trans (cnt_mono (by omega)) (hcnt (by omega)), by rw [q4]; exact habs i ks hr hil hks⟩)
  simp (disch:=first|assumption|(simp only[dz];first|done|assumption|omega)|omega) only [↓gd,gp,Nat.reduceAdd,Nat.reduceEqDiff, ↓hk5, r7, r15, r18, eS, wi]
  refine hkk _ _ hil rfl ⟨S2, (M1.apply ((i : Int) + 1) x').1, ?_⟩
  simp (disch:=first|assumption|(simp only[dz];first|done|assumption|omega)|omega) only [↓gsd,gs,gv,Nat.reduceAdd,Nat.reduceEqDiff, r2, r5, r7, r13, r14, r15, r18]
  exact ⟨h2, hp2⟩
 ·have d1 : decide ((i : Int) < (at_ : Int)) = false := decide_eq_false (by omega)
  have : i = at_ := by omega
  subst this
  simp (disch:=first|assumption|(simp only[dz];first|done|assumption|omega)|omega) only [↓gd,gp,Nat.reduceAdd,Nat.reduceEqDiff, ↓hk5, r7, r15, r18, eS, d1]
  exact hK _ w1 S M1 h1 hp1 r2 r5 r7 r13 r14 r15 r18
structure Post (M : Mem) (past : List (List ByteArray)) (f : Ent) (read i : Nat) : Prop where
 seq : Seq M i
 one : (truthTo past f.key read i).hi = openI → One M.T f
theorem Post.next {M : Mem} {past : List (List ByteArray)} {f : Ent} {read i : Nat} (h : Post M past f read i) (hop : (truthTo past f.key read i).hi = openI) (hri : read ≤ i) (hi : i < 2000000) {x : KRec} (hx : x.r.n = (i : Int) + 1) (hk : past[i]? = some x.ks) : Post (M.apply ((i : Int) + 1) x).1 past f read (i + 1) := by
 obtain ⟨e, hs⟩ := h.seq.next (by omega) hx
 refine ⟨hs, fun hop2 => ?_⟩
 have ho := h.one hop
 have hab := truth_absent (by omega) hop2 i x.ks (by omega) (by omega) hk
 rw [e]
 show One (givT M x M.T x.ks) f
 rw [givT_nil x.ks fun k hk => ho.2 k (hab k hk)]
 exact ho
set_option maxHeartbeats 32000000 in
theorem stays_end {W w : World} {a : Lay} {c : Cfg} {M : Mem} {v : Value} {vs : List Value} {past : List (List ByteArray)} {f : Ent} {read at_ p7 p20 : Nat} {cc : Int} {e : Env} {K : Value → World → Prop} (h : NodeIn W w a c 1 M 1) (hc : CfgOK c) (hp : PastAt W v vs past)
  (g7 : W.heap[p7]? = some (.cells ([v] : List Value).toArray 58 (0, 0))) (hat : at_ ≤ past.length) (hra : read ≤ at_) (hpost : Post M past f read at_) (hf : Open0 f.key read f) (hcc : 0 ≤ cc ∧ cc ≤ 255)
  (g20 : w.heap[p20]? = some (.cells (encFct f).toArray 34 (0, 0))) (n20 : p20 ∉ a.all) (hWp : W.heap.size ≤ p20)
  (e2 : e 2 = .string f.key) (e5 : e 5 = .int .u8 cc) (e7 : e 7 = .pointer (some ⟨p7, 0, none⟩)) (e13 : e 13 = .int .i64 past.length) (e14 : e 14 = .int .i64 read) (e15 : e 15 = .int .i64 at_) (e18 : e 18 = .pointer (some ⟨a.nb, 0, none⟩)) (e20 : e 20 = .pointer (some ⟨p20, 0, none⟩))
  (hK : ∀ w', Fr [] W w' → K (.bool true) w') : W3 Tryz.prog 192 V5 c5_13 (retQ Tryz.prog [.tmp 12] K) e w := by
 have cw := cur w
 have hle := hp.le
 simp (disch:=first|assumption|(simp only[dz];first|done|assumption|omega)|omega) only [↓gd,gp,Nat.reduceAdd,Nat.reduceEqDiff, ↓hk5, e15]
 refine for_intro past.length 21 at_ (fun i e1 w' => ∃ S M', e1 2 = .string f.key ∧ e1 5 = .int .u8 cc ∧ e1 7 = .pointer (some ⟨p7, 0, none⟩) ∧ e1 13 = .int .i64 past.length ∧ e1 14 = .int .i64 read ∧ e1 18 = .pointer (some ⟨a.nb, 0, none⟩) ∧ e1 20 = .pointer (some ⟨p20, 0, none⟩) ∧ at_ ≤ i ∧ NodeIn W w' { a with S := S } c 1 M' 1 ∧ Post M' past f read i ∧ w'.heap[p20]? = some (.cells (encFct f).toArray 34 (0, 0)) ∧ p20 ∉ Lay.all { a with S := S }) ?_ hat ?_ ?_
 ·simp (disch:=first|assumption|(simp only[dz];first|done|assumption|omega)|omega) only [↓gsd,gs,gv,Nat.reduceAdd,Nat.reduceEqDiff]
 ·refine ⟨a.S, M, ?_⟩
  simp (disch:=first|assumption|(simp only[dz];first|done|assumption|omega)|omega) only [↓gsd,gs,gv,Nat.reduceAdd,Nat.reduceEqDiff, e2, e5, e7, e13, e14, e18, e20]
  exact ⟨Nat.le_refl _, h, hpost, g20, n20⟩
 rintro i e1 w1 kk hi eS ⟨S, M1, r2, r5, r7, r13, r14, r18, r20, hai, h1, hp1, g201, n201⟩ hkk
 have cw1 := cur w1
 have hpa := hp.frN h1.fr
 have g71 := h1.fr.getN g7
 simp (disch:=first|assumption|(simp only[dz];first|done|assumption|omega)|omega) only [↓gd,gp,Nat.reduceAdd,Nat.reduceEqDiff, ↓hk5, r2, r7, r14, eS, g71]
 refine truth_spec (past := past) (key := f.key) (c := (read : Int)) (read := i) hpa hi fun w2 hf2 => ?_
 have cw2 := cur w2
 have h2 := h1.frN hf2
 have g202 := hf2.getN g201
 cases dop : decide ((truthTo past f.key read i).hi = 4611686018427387904) with
 | false =>
   unfold encFct
   simp (disch:=first|assumption|(simp only[dz];first|done|assumption|omega)|omega) only [↓gd,gp,Nat.reduceAdd,Nat.reduceEqDiff, ↓hk5, dop]
   exact hK _ h2.fr
 | true =>
   have hop : (truthTo past f.key read i).hi = openI := of_decide_eq_true dop
   have hone := hp1.one hop
   unfold encFct
   have hmm : 0 ≤ cc.tmod ((i : Int) - read + 1) ∧ cc.tmod ((i : Int) - read + 1) ≤ (i : Int) - read := by
    rw [Int.tmod_eq_emod_of_nonneg hcc.1]
    have := Int.emod_lt_of_pos cc (show (0 : Int) < (i : Int) - read + 1 by omega)
    have := Int.emod_nonneg cc (show (i : Int) - read + 1 ≠ 0 by omega)
    omega
   have z1 : IntKind.i64.wrap cc = cc := wrap64 (by omega) (by omega)
   have z2 : IntKind.i64.wrap ((i : Int) - read) = (i : Int) - read := wrap64 (by omega) (by omega)
   have z3 : IntKind.i64.wrap ((i : Int) - read + 1) = (i : Int) - read + 1 := wrap64 (by omega) (by omega)
   obtain ⟨m, hm⟩ : ∃ m, m = cc.tmod ((i : Int) - read + 1) := ⟨_, rfl⟩
   rw [← hm] at hmm
   have z4 : IntKind.i64.wrap ((read : Int) + m) = (read : Int) + m := wrap64 (by omega) (by omega)
   have z5 : IntKind.i64.wrap ((read : Int) + m + 1) = (read : Int) + m + 1 := wrap64 (by omega) (by omega)
   have zne : (i : Int) - read + 1 ≠ 0 := by omega
   simp (disch:=first|assumption|(simp only[dz];first|done|assumption|omega)|omega) only [↓gd,gp,Nat.reduceAdd,Nat.reduceEqDiff, ↓hk5, dop, r2, r5, r14, r18, eS, z1, z2, z3, run_rem _ _ _ _ _ _ _ zne, ← hm, z4, z5]
   have hb0 := hc.b0
   have hb1 := hc.b1
   have hp1' := hc.p1
   have hseq := hp1.seq
   have hlo1 := hf.lo1
   have l20 := lt_of_get _ _ g202
   obtain ⟨x, q1, q2, q3, q4, q5, q6, q7⟩ := look_one hc (x := (read : Int) + m) h2.ok hone hf.hi (by omega) (by rw [hseq.at_]; omega)
   refine look_spec (a := { a with S := S }) h2.at_ h2.ok.ti.tok (by omega) h2.ok.ti.nd (by omega) fun w3 S3 h3 hS3 hf3 => ?_
   have cw3 := cur w3
   have hz3 := hf3.size
   have h3N : NodeIn W w3 { a with S := S3 } c 1 (M1.look c f.key ((read : Int) + m) ((read : Int) + m + 1)).1 1 := ⟨h3, h2.ok.look hc _ _ _, all_ge h2.ge hS3 h2.fr.size, h2.fr.trans hf3 fun y hy => .inr (h2.ge y hy)⟩
   have g203 := hf3.get g202 n201
   have n203 : p20 ∉ Lay.all { a with S := S3 } := fun hm => by
    unfold Lay.all at hm
    rcases List.mem_append.1 hm with q | q
    ·exact n201 (List.mem_append_left _ q)
    ·rcases hS3 _ q with q' | q'
     ·exact n201 (List.mem_append_right _ q')
     ·omega
   have hs3 : Seq (M1.look c f.key ((read : Int) + m) ((read : Int) + m + 1)).1 i := ⟨by rw [q5]; exact hseq.live, by rw [q6]; exact hseq.at_, by rw [q6]; exact hseq.ws⟩
   have hlv : lookV (some x) M1.g.at_ = [.agg #[.bool f.has, .string f.data], .agg #[.int .i64 f.lo, .int .i64 ((i : Int) + 1)], .bool true] := by
    show [Value.agg #[.bool x.has, .string x.data], Value.agg #[.int .i64 (knownE x M1.g.at_).1, .int .i64 (knownE x M1.g.at_).2], _] = _
    rw [q3, q2.has, q2.data, hseq.at_]
   rw [q1, hlv]
   clear h3 q1 q3
   generalize (M1.look c f.key ((read : Int) + m) ((read : Int) + m + 1)).1 = M3 at h3N hs3 q4 q5 q6 q7
   simp (disch:=first|assumption|(simp only[dz];first|done|assumption|omega)|omega) only [↓gd,gp,Nat.reduceAdd,Nat.reduceEqDiff, ↓c5_14_s, ↓c5_20_s, ↓c5_26_s, ↓c5_29_s, ↓c5_28_s, ↓c5_27_s, ↓c5_25_s, ↓c5_32_s, ↓c5_31_s, ↓c5_30_s, ↓c5_23_s, ↓c5_22_s, ↓c5_21_s, ↓c5_19_s, ↓c5_34_s, ↓c5_33_s, ↓c5_18_s, ↓c5_17_s, ↓c5_16_s, ↓c5_15_s, ↓c5_13_s, ↓c5_37_s, ↓c5_36_s, ↓c5_35_s, ↓c5_12_s, ↓c5_11_s, ↓c5_43_s, ↓c5_45_s, ↓c5_44_s, ↓c5_42_s, ↓c5_47_s, ↓c5_46_s, ↓c5_41_s, ↓c5_40_s, ↓c5_39_s, ↓c5_38_s, ↓c5_10_s, ↓c5_50_s, ↓c5_49_s, ↓c5_48_s, ↓c5_9_s, ↓c5_8_s, ↓c5_53_s, ↓c5_52_s, ↓c5_51_s, ↓c5_7_s, ↓c5_59_s, ↓c5_61_s, ↓c5_60_s, ↓c5_58_s, ↓c5_63_s, ↓c5_62_s, ↓c5_57_s, ↓c5_56_s, ↓c5_55_s, ↓c5_54_s, ↓c5_6_s, ↓c5_5_s, ↓c5_4_s, ↓c5_3_s, ↓c5_2_s, ↓c5_66_s, ↓c5_65_s, ↓c5_64_s, ↓c5_1_s, ↓c5_s, ↓w3t_5]
   generalize hW : World.setB _ _ _ = w4
   have hf4 : Fr [] w3 w4 := by rw [← hW]; exact fr_
   have x23 : w4.heap[w3.heap.size]? = some (.cells ([.bool f.has, .string f.data] : List Value).toArray 31 (0, 0)) := by rw [← hW]; simp (disch:=first|assumption|(simp only[dz];first|done|assumption|omega)|omega) only [↓gsd,gs,gv,Nat.reduceAdd,Nat.reduceEqDiff]
   have x24 : w4.heap[w3.heap.size + 1]? = some (.cells ([.int .i64 f.lo, .int .i64 ((i : Int) + 1)] : List Value).toArray 48 (0, 0)) := by rw [← hW]; simp (disch:=first|assumption|(simp only[dz];first|done|assumption|omega)|omega) only [↓gsd,gs,gv,Nat.reduceAdd,Nat.reduceEqDiff]
   clear hW
   have cw4 := cur w4
   have g204 := hf4.getN g203
   have h4 := h3N.frN hf4
   have l23 := lt_of_get _ _ x23
   have l24 := lt_of_get _ _ x24
   have l204 := lt_of_get _ _ g204
   have wi : IntKind.i64.wrap ((i : Int) + 1) = (i : Int) + 1 := wrap64 (by omega) (by omega)
   have ke : (decide (f.has = f.has) && (decide (f.data = f.data) && true)) = true := by simp
   have d1 : decide ((read : Int) < f.lo) = false := decide_eq_false (by omega)
   have d2 : decide ((i : Int) + 1 = (i : Int) + 1) = true := decide_eq_true rfl
   have g204u := g204
   unfold encFct at g204u
   by_cases hie : i = past.length
   ·have d3 : decide ((i : Int) = (past.length : Int)) = true := decide_eq_true (by omega)
    simp (disch:=first|assumption|(simp only[dz];first|done|assumption|omega)|omega) only [↓gd,gp,Nat.reduceAdd,Nat.reduceEqDiff, ↓hk5, r13, r14, r20, eS, x23, x24, g204u, val_ne, ke, d1, d2, d3, wi]
    exact hK _ h4.fr
   ·have d3 : decide ((i : Int) = (past.length : Int)) = false := decide_eq_false (by omega)
    have hp4 := hp.frN h4.fr
    have g74 := h4.fr.getN g7
    obtain ⟨ks, hks⟩ : ∃ ks, past[i]? = some ks := ⟨past[i]'(by omega), List.getElem?_eq_getElem _⟩
    obtain ⟨vk, hvk⟩ : ∃ vk, vs[i]? = some vk := ⟨vs[i]'(by have := hp.len; omega), List.getElem?_eq_getElem _⟩
    have hsk := hp4.row i vk ks hvk hks
    have hkb := hp.bound ks (List.mem_of_getElem? hks)
    obtain ⟨ka, kc, hkf⟩ := hsk.form
    obtain ⟨b2, o2, p2, ob2, hv2, hb2, hbl2, _, hc2⟩ := hp4.sl.read (fun _ => rfl) i vk hvk
    have qq := fun orig K => hc2 0 vk orig K rfl
    simp only [Nat.add_zero, Nat.mul_one] at qq
    have hil2 : i < vs.length := by have := hp.len; omega
    have i0 : (0 : Int) ≤ (i : Int) := by omega
    have i1 : (i : Int) < (vs.length : Int) := by omega
    rw [hv2] at g74
    rw [hkf] at qq hsk
    simp (disch:=first|assumption|(simp only[dz];first|done|assumption|omega)|omega) only [↓gd,gp,Nat.reduceAdd,Nat.reduceEqDiff, ↓hk5, r7, r13, r14, r18, r20, eS, x23, x24, g204u, val_ne, ke, d1, d2, d3, wi, g74, i0, i1, Int.toNat_natCast, Nat.mul_one, hb2, qq]
    refine apply_spec (a := { a with S := S3 }) (x := ⟨⟨(i : Int) + 1, ka, ks.length, kc⟩, ks⟩) h4.at_ h4.ok.ti (by omega) h4.ok.wf hsk (by show ks.length ≤ _; omega) fun w5 S5 x' y1 y2 h5 hT5 hg5 hS5 hf5 => ?_
    have cw5 := cur w5
    have h5N : NodeIn W w5 { a with S := S5 } c 1 (M3.apply ((i : Int) + 1) x').1 1 := ⟨h5, ⟨by rw [(apply_ins _ _ _).1]; exact hT5, hg5, by rw [(apply_ins _ _ _).1]; exact h4.ok.i0, by rw [(apply_ins _ _ _).1]; exact h4.ok.i1⟩, all_ge h4.ge hS5 h4.fr.size, h4.fr.trans hf5 fun y hy => .inr (h4.ge y hy)⟩
    have hpo : Post (M3.apply ((i : Int) + 1) x').1 past f read (i + 1) := Post.next ⟨hs3, fun _ => q4⟩ hop (by omega) (by omega) y1 (by rw [y2]; exact hks)
    have n205 : p20 ∉ Lay.all { a with S := S5 } := fun hm => by
     unfold Lay.all at hm
     rcases List.mem_append.1 hm with q | q
     ·exact n203 (List.mem_append_left _ q)
     ·rcases hS5 _ q with q' | q'
      ·exact n203 (List.mem_append_right _ q')
      ·omega
    have g205 := hf5.get g204 n203
    simp (disch:=first|assumption|(simp only[dz];first|done|assumption|omega)|omega) only [↓gd,gp,Nat.reduceAdd,Nat.reduceEqDiff, ↓hk5, eS, wi]
    refine hkk _ _ (by omega) rfl ⟨S5, (M3.apply ((i : Int) + 1) x').1, ?_⟩
    simp (disch:=first|assumption|(simp only[dz];first|done|assumption|omega)|omega) only [↓gsd,gs,gv,Nat.reduceAdd,Nat.reduceEqDiff, r2, r5, r7, r13, r14, r18, r20]
    exact ⟨by omega, h5N, hpo, g205, n205⟩
end Go.Proofs.YtomlgkecckffeaaGreat
