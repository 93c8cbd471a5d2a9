/- The gap, plainly: what waits is a list of numbers with things. DERIVED: THE SHELF's CONTRACTS AT THIS DUMP, IN PLAIN WORDS (tools/lay-plain.mjs out of 'YtomlgkecckffeaaGreatGL.lean', which tools/lay-shelf.mjs wrote): THE SAME DECLARATIONS UNDER THE SAME NAMES: 'import', 'namespace', 'open', 'def', 'theorem' AND NOTHING ELSE: no command of the shelf's: FOR A HAND-IN. Each laying: the table of numbers ('.._ren') and one theorem, a field a fact of the dump's own or the kernel's comparison; each contract: ONE APPLICATION. slices.Sorted(maps.Keys(m)) at int64 keys: the kit's contracts, told of an entry list. The gap in memory. -/
import Derived.Test.YtomlgkecckffeaaGreatKS
import Derived.Shelf.SlIterI.Nil
import Derived.Shelf.SortM.Plain
import Derived.Shelf.SortM.SortNone
import Derived.Ground.GgzProg
import Derived.Ground.SlgmProg
import Derived.Test.YtomlgkecckffeaaGreatProg
import Derived.Test.YtomlgkecckffeaaGreatCI
import Derived.Sort.KeysCollected
set_option linter.unusedVariables false
set_option linter.unusedSimpArgs false
set_option maxRecDepth 10000
namespace Go.Proofs.YtomlgkecckffeaaGreat
open Go.VW
section
variable {κ α β : Type} [DecidableEq κ]
theorem aset_new (l : List (κ × α)) (k : κ) (v : α) (h : aget l k = none) : aset l k v = l ++ [(k, v)] := by
 induction l with
 | nil => rfl
 | cons p r ih =>
   by_cases hp : p.1 = k
   ·simp [aget, hp] at h
   ·simp only [aget, hp, if_false] at h
    simp [aset, hp, ih h]
theorem aget_map (l : List (κ × α)) (f : α → β) (k : κ) : aget (l.map fun p => (p.1, f p.2)) k = (aget l k).map f := by
 induction l with
 | nil => rfl
 | cons p r ih =>
   by_cases hp : p.1 = k <;> simp [aget, hp, ih]
theorem adel_map (l : List (κ × α)) (f : α → β) (k : κ) : adel (l.map fun p => (p.1, f p.2)) k = (adel l k).map fun p => (p.1, f p.2) := by
 induction l with
 | nil => rfl
 | cons p r ih =>
   by_cases hp : p.1 = k <;> simp [adel, hp, ih]
theorem adel_len (l : List (κ × α)) (k : κ) : (adel l k).length = if (aget l k).isSome then l.length - 1 else l.length := by
 induction l with
 | nil => rfl
 | cons p r ih =>
   by_cases hp : p.1 = k
   ·simp [adel, aget, hp]
   ·simp only [adel, aget, hp, if_false, List.length_cons, ih]
    split
    ·rename_i h
     cases r with
     | nil => simp [aget] at h
     | cons _ _ => simp
    ·rfl
theorem adel_mem (l : List (κ × α)) (k : κ) {p : κ × α} (h : p ∈ adel l k) : p ∈ l := by
 induction l with
 | nil => exact h
 | cons q r ih =>
   by_cases hq : q.1 = k
   ·simp only [adel, hq, if_true] at h; exact List.mem_cons_of_mem _ h
   ·simp only [adel, hq, if_false] at h
    rcases List.mem_cons.1 h with h | h
    ·subst h; exact List.mem_cons_self ..
    ·exact List.mem_cons_of_mem _ (ih h)
theorem aget_mem (l : List (κ × α)) (k : κ) {v : α} (h : aget l k = some v) : (k, v) ∈ l := by
 induction l with
 | nil => simp [aget] at h
 | cons q r ih =>
   by_cases hq : q.1 = k
   ·simp only [aget, hq, if_true, Option.some.injEq] at h
    subst h; subst hq; exact List.mem_cons_self ..
   ·simp only [aget, hq, if_false] at h
    exact List.mem_cons_of_mem _ (ih h)
end
section
variable {α : Type}
structure GS (α : Type) where
 at_ : Int
 most : Nat
 ws : List (Int × α)
def clamp (a : Int) : Int := min (max a 0) 1099511627776
def GS.new (a m : Int) : GS α := ⟨clamp a, (min (max m 0) 256).toNat, []⟩
def GS.clear (g : GS α) (a : Int) : GS α := ⟨clamp a, g.most, []⟩
def drain : Nat → Int → List (Int × α) → List α × Int × List (Int × α)
 | 0, a, ws => ([], a, ws)
 | f + 1, a, ws => match aget ws (a + 1) with
   | none => ([], a, ws)
   | some v => (v :: (drain f (a + 1) (adel ws (a + 1))).1, (drain f (a + 1) (adel ws (a + 1))).2)
def GS.put (g : GS α) (n : Int) (v : α) : (List α × Bool) × GS α :=
 if n ≤ g.at_ ∨ 1099511627776 < n ∨ (aget g.ws n).isSome then (([], false), g)
 else if n = g.at_ + 1 then ((v :: (drain g.ws.length n g.ws).1, false), ⟨(drain g.ws.length n g.ws).2.1, g.most, (drain g.ws.length n g.ws).2.2⟩)
 else if g.most ≤ g.ws.length then (([], true), ⟨g.at_, g.most, []⟩)
 else (([], false), ⟨g.at_, g.most, g.ws ++ [(n, v)]⟩)
structure GS.WF (g : GS α) : Prop where
 a0 : 0 ≤ g.at_
 a1 : g.at_ ≤ 1099511627776
 m : g.most ≤ 256
 nd : (g.ws.map (·.1)).Nodup
 rng : ∀ p ∈ g.ws, g.at_ + 1 < p.1 ∧ p.1 ≤ 1099511627776
 len : g.ws.length ≤ g.most
theorem clamp_range (a : Int) : 0 ≤ clamp a ∧ clamp a ≤ 1099511627776 := by unfold clamp; omega
theorem GS.new_wf (a m : Int) : (GS.new (α := α) a m).WF :=
 ⟨(clamp_range a).1, (clamp_range a).2, by simp only [GS.new]; omega, by simp [GS.new], by simp [GS.new], by simp [GS.new]⟩
theorem GS.WF.clear {g : GS α} (h : g.WF) (a : Int) : (g.clear a).WF := ⟨(clamp_range a).1, (clamp_range a).2, h.m, by simp [GS.clear], by simp [GS.clear], by simp [GS.clear]⟩
theorem drain_ok : ∀ (f : Nat) (a : Int) (ws : List (Int × α)), ws.length ≤ f → (ws.map (·.1)).Nodup → (∀ p ∈ ws, a < p.1 ∧ p.1 ≤ 1099511627776) → a ≤ 1099511627776 →
  a ≤ (drain f a ws).2.1 ∧ (drain f a ws).2.1 ≤ 1099511627776 ∧ ((drain f a ws).2.2.map (·.1)).Nodup ∧ (∀ p ∈ (drain f a ws).2.2, (drain f a ws).2.1 + 1 < p.1 ∧ p.1 ≤ 1099511627776 ∧ p ∈ ws) ∧ (drain f a ws).2.2.length ≤ ws.length ∧ (drain f a ws).1.length + (drain f a ws).2.2.length = ws.length ∧ (drain f a ws).2.1 = a + (drain f a ws).1.length
 | 0, a, ws, hl, hn, hr, ha => by
   have : ws = [] := List.eq_nil_of_length_eq_zero (by omega)
   subst this
   simp [drain]; omega
 | f + 1, a, ws, hl, hn, hr, ha => by
   cases hg : aget ws (a + 1) with
   | none =>
     simp only [drain, hg]
     refine ⟨by omega, ha, hn, fun p hp => ?_, by omega, by simp, by simp⟩
     have h1 := hr p hp
     have h2 : p.1 ≠ a + 1 := fun e => (aget_none ws (a + 1)).1 hg (List.mem_map.2 ⟨p, hp, e⟩)
     exact ⟨by omega, h1.2, hp⟩
   | some v =>
     have hm := aget_mem _ _ hg
     have h1 := (hr _ hm).2
     simp only at h1
     have hlen : (adel ws (a + 1)).length = ws.length - 1 := by rw [adel_len, hg]; rfl
     have hpos : 0 < ws.length := List.length_pos_of_mem hm
     have hnd := nodup_adel ws (a + 1) hn
     obtain ⟨i1, i2, i3, i4, i5, i6, i7⟩ := drain_ok f (a + 1) (adel ws (a + 1)) (by omega) hnd (fun p hp => by
      have h2 := hr p (adel_mem _ _ hp)
      have h3 : p.1 ≠ a + 1 := fun e => by
       have := (mem_keys_aget (adel ws (a + 1)) (a + 1)).1 (List.mem_map.2 ⟨p, hp, e⟩)
       rw [aget_adel ws hn] at this
       simp at this
      omega) (by omega)
     simp only [drain, hg]
     refine ⟨by omega, i2, i3, fun p hp => ?_, by omega, ?_, ?_⟩
     ·have := i4 p hp
      exact ⟨this.1, this.2.1, adel_mem _ _ this.2.2⟩
     ·simp; omega
     ·simp; omega
theorem GS.WF.put {g : GS α} (h : g.WF) (n : Int) (v : α) : (g.put n v).2.WF := by
 unfold GS.put
 split
 ·exact h
 ·rename_i h1
  simp only [not_or, Int.not_le, Int.not_lt] at h1
  obtain ⟨h1, h2, h3⟩ := h1
  have h3' : aget g.ws n = none := by cases hq : aget g.ws n <;> simp [hq] at h3 ⊢
  split
  ·rename_i hn
   obtain ⟨i1, i2, i3, i4, i5, i6, i7⟩ := drain_ok g.ws.length n g.ws (Nat.le_refl _) h.nd (fun p hp => by have := h.rng p hp; omega) h2
   exact ⟨by have := h.a0; show 0 ≤ (drain _ _ _).2.1; omega, i2, h.m, i3, fun p hp => ⟨(i4 p hp).1, (i4 p hp).2.1⟩, by have := h.len; show (drain _ _ _).2.2.length ≤ g.most; omega⟩
  ·rename_i hn
   split
   ·exact ⟨h.a0, h.a1, h.m, by simp, by simp, by simp⟩
   ·rename_i hl
    refine ⟨h.a0, h.a1, h.m, ?_, ?_, ?_⟩
    ·show ((g.ws ++ [(n, v)]).map (·.1)).Nodup
     rw [List.map_append, List.nodup_append]
     refine ⟨h.nd, by simp, fun a ha b hb e => ?_⟩
     simp at hb
     subst hb; subst e
     exact (aget_none g.ws a).1 h3' ha
    ·intro p hp
     rcases List.mem_append.1 hp with hp | hp
     ·exact h.rng p hp
     ·simp at hp; subst hp; exact ⟨by show g.at_ + 1 < n; omega, h2⟩
    ·show (g.ws ++ [(n, v)]).length ≤ g.most
     simp; omega
end
end Go.Proofs.YtomlgkecckffeaaGreat

namespace Go.Proofs
open Go.Shelf
def YtomlgkecckffeaaGreat.kR_ren : Go.Shelf.Ren := ⟨fun | 7 => 133 | 10 => 174 | n => n, fun | 23 => 177 | 26 => 2 | 3 => 38 | 28 => 175 | 0 => 0 | 27 => 174 | 33 => 147 | 4 => 4 | n => n, fun | n => n⟩
theorem YtomlgkecckffeaaGreat.kR : Go.Proofs.SlLaysZI.n7 Tryz.prog YtomlgkecckffeaaGreat.kR_ren := {
  mixed := by kernel_rfl
  f7 := ⟨Tryz.f133.name, by decide, Tryz.func133.trans (congrArg some (by kernel_rfl))⟩
  f10 := ⟨Tryz.f174.name, by decide, Tryz.func174.trans (congrArg some (by kernel_rfl))⟩
  t0 := Tryz.underlying0
  a0 := Tryz.isAgg0
  z0 := Tryz.sizeOf0
  v0 := Tryz.zeroValue0
  t4 := Tryz.underlying4
  a4 := Tryz.isAgg4
  z4 := Tryz.sizeOf4
  v4 := Tryz.zeroValue4
  t23 := Tryz.underlying177
  a23 := Tryz.isAgg177
  z23 := Tryz.sizeOf177
  v23 := Tryz.zeroValue177
  t26 := Tryz.underlying2
  a26 := Tryz.isAgg2
  z26 := Tryz.sizeOf2
  v26 := Tryz.zeroValue2
  t27 := Tryz.underlying174
  a27 := Tryz.isAgg174
  z27 := Tryz.sizeOf174
  v27 := Tryz.zeroValue174
  t28 := Tryz.underlying175
  a28 := Tryz.isAgg175
  z28 := Tryz.sizeOf175
  v28 := Tryz.zeroValue175
  t33 := Tryz.underlying147
  a33 := Tryz.isAgg147
  z33 := Tryz.sizeOf147
  v33 := Tryz.zeroValue147 }
def YtomlgkecckffeaaGreat.sI_ren : Go.Shelf.Ren := ⟨fun | 6 => 132 | 8 => 172 | 9 => 173 | 11 => 200 | 13 => 202 | 12 => 201 | 23 => 222 | 24 => 223 | 14 => 213 | 15 => 214 | 16 => 215 | 17 => 216 | 18 => 217 | 19 => 218 | 20 => 219 | 21 => 220 | 22 => 221 | 25 => 236 | 26 => 237 | 27 => 238 | 28 => 239 | 29 => 240 | 30 => 206 | 31 => 246 | n => n, fun | 26 => 2 | 28 => 175 | 24 => 40 | 0 => 0 | 3 => 3 | 37 => 246 | 48 => 262 | 50 => 264 | 4 => 4 | 40 => 255 | 39 => 254 | 45 => 206 | 5 => 5 | 9 => 9 | 51 => 273 | 55 => 277 | 57 => 281 | 58 => 282 | 33 => 147 | n => n, fun | n => n⟩
theorem YtomlgkecckffeaaGreat.sI : Go.Proofs.SlLaysZI.n6 Tryz.prog YtomlgkecckffeaaGreat.sI_ren := {
  mixed := by kernel_rfl
  f6 := ⟨Tryz.f132.name, by decide, Tryz.func132.trans (congrArg some (by kernel_rfl))⟩
  f8 := ⟨Tryz.f172.name, by decide, Tryz.func172.trans (congrArg some (by kernel_rfl))⟩
  f11 := ⟨Tryz.f200.name, by decide, Tryz.func200.trans (congrArg some (by kernel_rfl))⟩
  t0 := Tryz.underlying0
  a0 := Tryz.isAgg0
  z0 := Tryz.sizeOf0
  v0 := Tryz.zeroValue0
  t24 := Tryz.underlying40
  a24 := Tryz.isAgg40
  z24 := Tryz.sizeOf40
  v24 := Tryz.zeroValue40
  t26 := Tryz.underlying2
  a26 := Tryz.isAgg2
  z26 := Tryz.sizeOf2
  v26 := Tryz.zeroValue2
  t28 := Tryz.underlying175
  a28 := Tryz.isAgg175
  z28 := Tryz.sizeOf175
  v28 := Tryz.zeroValue175
  i26 := by kernel_rfl }
def YtomlgkecckffeaaGreat.tI_ren : Go.Shelf.Ren := ⟨fun | 5 => 173 | 8 => 202 | 7 => 201 | 19 => 222 | 20 => 223 | 10 => 213 | 11 => 214 | 12 => 215 | 13 => 216 | 14 => 217 | 15 => 218 | 16 => 219 | 17 => 220 | 18 => 221 | 30 => 236 | 31 => 237 | 32 => 238 | 33 => 239 | 34 => 240 | 35 => 206 | 40 => 246 | n => n, fun | 23 => 40 | 25 => 2 | 3 => 3 | 32 => 246 | 22 => 40 | 0 => 0 | 44 => 262 | 46 => 264 | 4 => 4 | 36 => 255 | 35 => 254 | 41 => 206 | 5 => 5 | 9 => 9 | 53 => 273 | 57 => 277 | 63 => 281 | 64 => 282 | n => n, fun | n => n⟩
theorem YtomlgkecckffeaaGreat.tI : Go.Proofs.SlLaysM.n5 Tryz.prog YtomlgkecckffeaaGreat.tI_ren := {
  mixed := by kernel_rfl
  f5 := ⟨Tryz.f173.name, by decide, Tryz.func173.trans (congrArg some (by kernel_rfl))⟩
  f7 := ⟨Tryz.f201.name, by decide, Tryz.func201.trans (congrArg some (by kernel_rfl))⟩
  f8 := Tryz.func202.trans (congrArg some (by kernel_rfl))
  f10 := ⟨Tryz.f213.name, by decide, Tryz.func213.trans (congrArg some (by kernel_rfl))⟩
  f11 := ⟨Tryz.f214.name, by decide, Tryz.func214.trans (congrArg some (by kernel_rfl))⟩
  f12 := ⟨Tryz.f215.name, by decide, Tryz.func215.trans (congrArg some (by kernel_rfl))⟩
  f13 := ⟨Tryz.f216.name, by decide, Tryz.func216.trans (congrArg some (by kernel_rfl))⟩
  f14 := ⟨Tryz.f217.name, by decide, Tryz.func217.trans (congrArg some (by kernel_rfl))⟩
  f15 := ⟨Tryz.f218.name, by decide, Tryz.func218.trans (congrArg some (by kernel_rfl))⟩
  f16 := ⟨Tryz.f219.name, by decide, Tryz.func219.trans (congrArg some (by kernel_rfl))⟩
  f17 := ⟨Tryz.f220.name, by decide, Tryz.func220.trans (congrArg some (by kernel_rfl))⟩
  f18 := ⟨Tryz.f221.name, by decide, Tryz.func221.trans (congrArg some (by kernel_rfl))⟩
  f19 := Tryz.func222.trans (congrArg some (by kernel_rfl))
  f20 := Tryz.func223.trans (congrArg some (by kernel_rfl))
  f30 := ⟨Tryz.f236.name, by decide, Tryz.func236.trans (congrArg some (by kernel_rfl))⟩
  f31 := Tryz.func237.trans (congrArg some (by kernel_rfl))
  f32 := Tryz.func238.trans (congrArg some (by kernel_rfl))
  f33 := ⟨Tryz.f239.name, by decide, Tryz.func239.trans (congrArg some (by kernel_rfl))⟩
  f34 := ⟨Tryz.f240.name, by decide, Tryz.func240.trans (congrArg some (by kernel_rfl))⟩
  f35 := ⟨Tryz.f206.name, by decide, Tryz.func206.trans (congrArg some (by kernel_rfl))⟩
  f40 := ⟨Tryz.f246.name, by decide, Tryz.func246.trans (congrArg some (by kernel_rfl))⟩
  t0 := Tryz.underlying0
  a0 := Tryz.isAgg0
  z0 := Tryz.sizeOf0
  v0 := Tryz.zeroValue0
  t3 := Tryz.underlying3
  a3 := Tryz.isAgg3
  z3 := Tryz.sizeOf3
  v3 := Tryz.zeroValue3
  t4 := Tryz.underlying4
  a4 := Tryz.isAgg4
  z4 := Tryz.sizeOf4
  v4 := Tryz.zeroValue4
  t5 := Tryz.underlying5
  a5 := Tryz.isAgg5
  z5 := Tryz.sizeOf5
  v5 := Tryz.zeroValue5
  t9 := Tryz.underlying9
  a9 := Tryz.isAgg9
  z9 := Tryz.sizeOf9
  v9 := Tryz.zeroValue9
  t22 := Tryz.underlying40
  a22 := Tryz.isAgg40
  z22 := Tryz.sizeOf40
  v22 := Tryz.zeroValue40
  t23 := Tryz.underlying40
  a23 := Tryz.isAgg40
  z23 := Tryz.sizeOf40
  v23 := Tryz.zeroValue40
  t25 := Tryz.underlying2
  a25 := Tryz.isAgg2
  z25 := Tryz.sizeOf2
  v25 := Tryz.zeroValue2
  t32 := Tryz.underlying246
  a32 := Tryz.isAgg246
  z32 := Tryz.sizeOf246
  v32 := Tryz.zeroValue246
  t35 := Tryz.underlying254
  a35 := Tryz.isAgg254
  z35 := Tryz.sizeOf254
  v35 := Tryz.zeroValue254
  t36 := Tryz.underlying255
  a36 := Tryz.isAgg255
  z36 := Tryz.sizeOf255
  v36 := Tryz.zeroValue255
  t41 := Tryz.underlying206
  a41 := Tryz.isAgg206
  z41 := Tryz.sizeOf206
  v41 := Tryz.zeroValue206
  t44 := Tryz.underlying262
  a44 := Tryz.isAgg262
  z44 := Tryz.sizeOf262
  v44 := Tryz.zeroValue262
  t46 := Tryz.underlying264
  a46 := Tryz.isAgg264
  z46 := Tryz.sizeOf264
  v46 := Tryz.zeroValue264
  t53 := Tryz.underlying273
  a53 := Tryz.isAgg273
  z53 := Tryz.sizeOf273
  v53 := Tryz.zeroValue273
  t57 := Tryz.underlying277
  a57 := Tryz.isAgg277
  z57 := Tryz.sizeOf277
  v57 := Tryz.zeroValue277
  t63 := Tryz.underlying281
  a63 := Tryz.isAgg281
  z63 := Tryz.sizeOf281
  v63 := Tryz.zeroValue281
  t64 := Tryz.underlying282
  a64 := Tryz.isAgg282
  z64 := Tryz.sizeOf282
  v64 := Tryz.zeroValue282 }
end Go.Proofs

namespace Go.Proofs.YtomlgkecckffeaaGreat
open Go.RowKit Go.Maps Go.Sort Go.Shelf Go.VW
theorem sortsI (m : Nat) : AnyZI.SortsIn Tryz.prog YtomlgkecckffeaaGreat.sI_ren Fence.wide m :=
 ⟨fun blk off cap ss W hH hblk hsz => callsIn_wide.2 (AnyM.slices_Sort_int YtomlgkecckffeaaGreat.tI blk off cap ss W hH hblk hsz),
  fun p cap W => callsIn_wide.2 (AnyM.slices_Sort_int_none YtomlgkecckffeaaGreat.tI p cap W)⟩
theorem un2 : Tryz.prog.underlying 2 = some (.int .i64) := by kernel_rfl
def sortI (l : List Int) : List Int := l.mergeSort fun x y => decide (x ≤ y)
theorem keysR {mb : Option Nat} {w : World} {K : Value → World → Prop} (hK : K (.func (.func 174) #[] #[.pointer (some ⟨w.heap.size, 0, none⟩)]) (w.alloc (.cells #[.map mb] 177))) : CallsN Tryz.prog 133 [.map mb] w K :=
 CallsN.of ((callsIn_wide.1 (AnyZI.keys_in YtomlgkecckffeaaGreat.kR Fence.wide 5 trivial rfl mb w)).mono fun e w' h => by
  obtain ⟨rfl, rfl⟩ := h
  exact ⟨_, rfl, hK⟩)
theorem sortedR {w : World} {b : Nat} {es : List (Int × Value)} {K : Value → World → Prop} (h : MapAt (Value.int .i64) w.heap[b]? es) (hb : ∀ p ∈ es, 0 ≤ p.1 ∧ p.1 ≤ 1099511627776) (hn : es.length ≤ 1000000)
  (hK : ∀ v w', Own 1 2 w' v es.length ((sortI (es.map (·.1))).map (Value.int .i64)) → Fr [] w w' → (∀ g, v.ownBlock = some g → w.heap.size ≤ g) → K v w') :
  CallsN Tryz.prog 132 [.func (.func 174) #[] #[.pointer (some ⟨w.heap.size, 0, none⟩)]] (w.alloc (.cells #[.map (some b)] 177)) K := by
 have hown := own_of_mapAt (H := Unit) (P := Tryz.prog) (kt := 2) (kl := Lit.int .i64) h (fun x y e => by simpa using e) (fun p hp => keyOf_i64_mk un2 (by have := hb p hp; omega) (by have := hb p hp; omega)) (by unfold maxLen; omega)
 have hsz := keysD_size (H := Unit) (es.map fun p => Lit.int .i64 p.1)
 have hpk := keysD_ints (H := Unit) (es.map (·.1))
 rw [List.map_map] at hpk
 generalize hD : keysD (H := Unit) (es.map fun p => Lit.int .i64 p.1) = D0 at hown hsz
 have hpk' : (intKeys D0).Perm (es.map (·.1)) := by rw [← hD]; exact hpk
 have hbl := hown.lt
 have hmax : Maps.size D0 ≤ maxLen := by rw [hsz]; unfold maxLen; simp; omega
 have hseq : SeqGives Fence.wide 2 Tryz.prog 174 #[.pointer (some ⟨w.heap.size, 0, none⟩)] encZ (fun ss => ss.Perm (intKeys D0)) (Maps.size D0) (w.alloc (.cells #[.map (some b)] 177)) :=
  AnyZI.keys_gives (ρ := YtomlgkecckffeaaGreat.kR_ren) { YtomlgkecckffeaaGreat.kR with } Fence.wide _ trivial rfl (by omega) w.heap.size b es.length D0 _ (by simp) (by simp) (by
   obtain ⟨es', clock, hb', Ft, hs, hD'⟩ := hown
   exact ⟨es', clock, (Below.heap_alloc _ _ b hbl).trans hb', Ft, hs, hD'⟩)
 have cS := AnyZI.sorted_in YtomlgkecckffeaaGreat.sI Fence.wide 5 trivial trivial trivial trivial rfl (by omega) (sortsI _) (enters_of Tryz.func173 (by kernel_rfl) rfl) 174 #[.pointer (some ⟨w.heap.size, 0, none⟩)] trivial (enters_of Tryz.func174 (by kernel_rfl) rfl) _ _ hmax (by rw [hsz]; simp; omega) _ hseq
 change CallsIn _ _ Tryz.prog 132 _ _ _ at cS
 refine CallsN.of ((callsIn_wide.1 cS).mono fun e w' h => ?_)
 obtain ⟨v, ss, rfl, hS, hrow, hnil, hbelow⟩ := h
 have hp := hS.trans hpk'
 have hm : ss.mergeSort (fun x y => decide (x ≤ y)) = sortI (es.map (·.1)) := mergeSort_of_perm_i hp
 rw [hm] at hrow
 have hl : ss.length = es.length := by rw [hp.length_eq]; simp
 rw [hl] at hrow
 obtain ⟨ho, hfr⟩ := Own.of_row hrow
 refine ⟨v, rfl, hK v w' ho (((Fr.refl [] w).alloc _).trans' (Fr.of_below hbelow)) fun g hg => ?_⟩
 have := hfr g hg
 rw [size_alloc] at this
 omega
open Go.VW
section
variable {α : Type}
def entV (V : α → Value) (ws : List (Int × α)) : List (Int × Value) := ws.map fun p => (p.1, V p.2)
structure GapAt (ty : TypeId) (V : α → Value) (w : World) (gb gm : Nat) (g : GS α) : Prop where
 head : w.heap[gb]? = some (.cells ([.int .i64 g.at_, .int .i64 g.most, .map (some gm)] : List Value).toArray ty (0, 0))
 map : MapAt (Value.int .i64) w.heap[gm]? (entV V g.ws)
theorem GapAt.frN {ty : TypeId} {V : α → Value} {w w' : World} {gb gm : Nat} {g : GS α} (h : GapAt ty V w gb gm g) (hf : Fr [] w w') : GapAt ty V w' gb gm g :=
 ⟨hf.getN h.head, by rw [hf.keepN _ h.map.lt]; exact h.map⟩
theorem GapAt.fr {ty : TypeId} {V : α → Value} {w w' : World} {gb gm : Nat} {g : GS α} (h : GapAt ty V w gb gm g) {M : List Nat} (hf : Fr M w w') (h1 : gb ∉ M) (h2 : gm ∉ M) : GapAt ty V w' gb gm g :=
 ⟨hf.get h.head h1, by rw [hf.keep _ h.map.lt h2]; exact h.map⟩
theorem GapAt.lt {ty : TypeId} {V : α → Value} {w : World} {gb gm : Nat} {g : GS α} (h : GapAt ty V w gb gm g) : gb < w.heap.size ∧ gm < w.heap.size ∧ gb ≠ gm := by
 obtain ⟨ents, clock, ho, _⟩ := h.map.ex
 refine ⟨lt_of_get _ _ h.head, lt_of_get _ _ ho, fun e => ?_⟩
 rw [← e, h.head] at ho
 cases ho
theorem entV_get (V : α → Value) (ws : List (Int × α)) (k : Int) : aget (entV V ws) k = (aget ws k).map V := aget_map ws V k
theorem entV_len (V : α → Value) (ws : List (Int × α)) : (entV V ws).length = ws.length := by simp [entV]
theorem entV_keys (V : α → Value) (ws : List (Int × α)) : (entV V ws).map (·.1) = ws.map (·.1) := by simp [entV, List.map_map, Function.comp_def]
theorem entV_del (V : α → Value) (ws : List (Int × α)) (k : Int) : adel (entV V ws) k = entV V (adel ws k) := adel_map ws V k
theorem entV_new (V : α → Value) (ws : List (Int × α)) (k : Int) (v : α) (h : aget ws k = none) : aset (entV V ws) k (V v) = entV V (ws ++ [(k, v)]) := by
 rw [aset_new _ _ _ (by rw [entV_get, h]; rfl)]; simp [entV]
end
structure Rec where
 n : Int
 a : Option Addr
 l : Nat
 c : Nat
def encR (r : Rec) : List Value := [.int .i64 r.n, .slice r.a r.l r.c]
abbrev recV (r : Rec) : Value := .agg ([.int .i64 r.n, .slice r.a r.l r.c] : List Value).toArray
structure KRec where
 r : Rec
 ks : List ByteArray
abbrev krV (x : KRec) : Value := recV x.r
def encKR (x : KRec) : List Value := encR x.r
theorem encKR_len (x : KRec) : (encKR x).length = 2 := rfl
def mapN (o : Option Obj) : Nat := match o with
 | some (.map ents _) => ents.size
 | _ => 0
theorem MapAt.sizeN {κ : Type} [DecidableEq κ] {kv : κ → Value} {o : Option Obj} {es : List (κ × Value)} (h : MapAt kv o es) : mapN o = es.length := by
 obtain ⟨ents, clock, rfl, he, _⟩ := h.ex
 have := congrArg List.length he
 simpa [entL, mapN] using this
theorem cellsOf_ints (l : List Int) : cellsOf (fun v : Int => [Value.int .i64 v]) l = l.map (Value.int .i64) := by
 induction l with
 | nil => rfl
 | cons a l ih => simp only [cellsOf, List.flatMap_cons, List.map_cons] at *; rw [ih]; rfl
theorem sl_ints {w : World} {v : Value} {n : Nat} {l : List Int} {e : TypeId} (h : Own 1 e w v n (l.map (Value.int .i64))) : SlOf 1 (fun v : Int => [Value.int .i64 v]) w v l := by
 have hl := h.1
 simp at hl
 unfold SlOf
 rw [cellsOf_ints, hl]
 exact h.sl
theorem Own.mk {k : Nat} {e : TypeId} {w : World} {b n : Nat} {cs : List Value} (h : w.heap[b]? = some (.cells cs.toArray e (0, 0))) (hl : cs.length = n * k) (hn : n ≤ 1000000) : Own k e w (.slice (some ⟨b, 0, none⟩) n n) n cs :=
 ⟨hl, .inr ⟨b, n, cs.toArray, rfl, Nat.zero_le _, h, Nat.le_refl _, by unfold maxLen; omega, by simpa using hl, by simp [← hl]⟩⟩
theorem drain_none {α : Type} {f : Nat} {a : Int} {ws : List (Int × α)} (hf : ws.length ≤ f) (h : aget ws (a + 1) = none) : drain f a ws = ([], a, ws) := by
 cases f with
 | zero => rfl
 | succ f => simp [drain, h]
theorem drain_some {α : Type} {f : Nat} {a : Int} {ws : List (Int × α)} {v : α} (hf : ws.length ≤ f) (h : aget ws (a + 1) = some v) :
  ∃ f', f = f' + 1 ∧ (adel ws (a + 1)).length + 1 = ws.length ∧ (adel ws (a + 1)).length ≤ f' ∧ drain f a ws = (v :: (drain f' (a + 1) (adel ws (a + 1))).1, (drain f' (a + 1) (adel ws (a + 1))).2) := by
 have hm := List.length_pos_of_mem (aget_mem _ _ h)
 have hl : (adel ws (a + 1)).length = ws.length - 1 := by rw [adel_len, h]; rfl
 cases f with
 | zero => omega
 | succ f => exact ⟨f, rfl, by omega, by omega, by simp [drain, h]⟩
end Go.Proofs.YtomlgkecckffeaaGreat
