/- What a machine on values does is what the program does. -/
import Derived.Shelf.SlSortCmp.NoneTotal
import Derived.Test.YtahkpjebkelmfaaVm3
set_option linter.unusedSimpArgs false
set_option linter.unusedVariables false
section
namespace Go.Vm
open Go.Sort (SWO PermIn SortedIn)
open Go.Proofs (sortWorld OneCell CmpLays1 ltOf Bears SlLaysF.n6)
open Go.Shelf (Ren)
variable {P : Program} {ρ : Ren}
theorem a3z {f : FuncId} {B : Func} {c : Code} (h : Bears P f B) (hb : B.body = some c) : a5G P f := by
 obtain ⟨nm, hn, hf⟩ := h;exact ⟨_, hf, by show B.body.isNone = false; rw [hb]; rfl, hn⟩
theorem a6T {f : FuncId} (h : a5G P f) : ∀ args w, (callFunc f args).run P w = .ok (.enter f args) w := by
 obtain ⟨fn, h1, h2, h3⟩ := h;cases hb : fn.body with
 | none => rw [hb] at h2; cases h2
 | some c => exact Go.Proofs.enters_of h1 h3 hb
abbrev sortS : Sig := ⟨[.wr false (.sl RowT) .deep, .fnx (fn2 (.int .i64))], []⟩
def b3P (cf : List Int -> List Int -> Int) (xs : List (List Int)) : List (List Int) := xs.mergeSort fun x y => !ltOf cf y x
open Classical in
noncomputable def sortF (cf : List Int -> List Int -> Int) (d : Ins sortS.ps) : Option (Outs sortS.outs × Muts sortS.ps) :=
 if (∀ x ∈ d.1, ∀ y ∈ d.1, d.2.1 (x, y, ()) = some (cf x y, ())) /\ d.1.length < 4611686018427387904 then some ((), (b3P cf d.1, ())) else none
theorem sort_sound (L : SlLaysF.n6 P ρ) {cf : List Int -> List Int -> Int} (hO : SWO (ltOf cf)) (hT : ∀ x y, ltOf cf x y = false -> ltOf cf y x = false -> x = y) : a2u P ⟨ρ.f 6, sortS, sortF cf⟩ := by
 refine ⟨a3z L.f6 rfl, ?_⟩;rintro ⟨xs, g, ⟨⟩⟩ r hF w vs M S A hA hMn hMS;have e0 : b3P cf [] = [] := by simp [b3P]
 simp only [sortF] at hF;split at hF
 next hgn =>
   obtain ⟨hg, hn⟩ := hgn;simp only [Option.some.injEq] at hF;subst hF;obtain ⟨v1, vs1, M1, M2, S1, S2, A1, A2, rfl, rfl, rfl, rfl, ⟨-, rfl, us, hr, hsh⟩, v2, vs2, M3, M4, S3, S4, A3, A4, rfl, rfl, rfl, rfl, ⟨rfl, f, caps, rfl, hfe, hSlt, hAS, hfn⟩, rfl, rfl, rfl, rfl⟩ := hA;have hsh : us = [v1] := by simpa [a0F] using hsh
   subst hsh;have hr0 := hr;obtain ⟨A0, c, hv, hc, hcase⟩ := hr;simp only [List.cons.injEq, and_true] at hv;subst hv;rcases hcase with ⟨rfl, rfl, rfl, hc0⟩ | ⟨-, b, arr, et, us, sp, F', rfl, hb, harr, ⟨hsz, hcm⟩, hrl, rfl⟩ | ⟨ho, -⟩
   . have h0 := Go.Proofs.AnyF.slices_SortFunc_none (P := P) (ρ := ρ) { L with } A0 c (.func (.func f) #[] caps) w;refine h0.mono fun e w' ⟨he, hw⟩ => ?_;subst he hw;exact ⟨[], [], [], [], [], rfl, ⟨rfl, rfl, rfl⟩, ⟨_, _, [], [], [], [], rfl, rfl, rfl, ⟨_, e0.symm ▸ hr0, rfl⟩, ⟨_, _, rfl, rfl, rfl⟩⟩, by simp, by simp, by simp, fun _ _ _ => rfl, Bel.refl _⟩
   . obtain ⟨l, rfl, rfl, rfl, rfl, hl⟩ := b3a hrl;simp only [List.append_nil] at hMn hMS hn;have hbS : b ∉ S3 := fun h => hMS b (by simp) (by simp [h]);have hlF : ∀ e ∈ l, ElG w b e := fun e he => ⟨hl e he, fun h => by
       simp only [List.nodup_cons, List.mem_flatMap, not_exists, not_and] at hMn;exact hMn.1 e he h, fun h => hMS b (by simp) (by simp only [List.mem_append, List.mem_flatMap]; exact .inl ⟨e, he, h⟩)⟩
     simp only [List.length_map] at hn hc ⊢;rcases Nat.eq_zero_or_pos l.length with h0 | hpos
     . have hl0 : l = [] := List.length_eq_zero_iff.1 h0;subst hl0;have h0 := Go.Proofs.AnyF.slices_SortFunc_none (P := P) (ρ := ρ) { L with } (some ⟨b, 0, none⟩) c (.func (.func f) #[] caps) w;refine h0.mono fun e w' ⟨he, hw⟩ => ?_;subst he hw;exact ⟨[], [], [], [b], [], rfl, ⟨rfl, rfl, rfl⟩, ⟨_, _, [b], [], [], [], rfl, rfl, rfl, ⟨_, e0.symm ▸ hr0, rfl⟩, ⟨_, _, rfl, rfl, rfl⟩⟩, by simp, by simp, by simp, fun _ _ _ => rfl, Bel.refl _⟩
     . haveI : Inhabited (Fin l.length) := ⟨⟨0, hpos⟩⟩
       have hblt : b < w.heap.size := by
         rcases Nat.lt_or_ge b w.heap.size with h | h
         . exact h
         . rw [Array.getElem?_eq_none h] at hb; cases hb
       obtain ⟨d, hd⟩ : ∃ d : Array (Fin l.length), d = (List.finRange l.length).toArray := ⟨_, rfl⟩;have hds : d.size = l.length := by rw [hd]; simp
       have hdg : ∀ j (hj : j < l.length), d[j]! = ⟨j, hj⟩ := fun j hj => by
         rw [getElem!_pos d j (by omega)]; subst hd; simp
       have hH : Go.Sort.Holds (encE l) w b 0 d := fun j hj => by
         have hj' : j < l.length := by omega
         have h1 := a0S hb harr j (l.get ⟨j, hj'⟩).v (by simp [hj']);have h2 : (⟨b, 0, none⟩ : Addr).add j = ⟨b, 0 + j, none⟩ := by unfold Addr.add; split <;> simp_all
         rw [h2] at h1;refine ⟨by rw [h1, hdg j hj'], ?_⟩;unfold World.frozen?;simp [hb]
       have hcmp : CmpLays1 P f caps (encE l) (fun i j => cf (l.get i).x (l.get j).x) b 0 d.size w := fun m os dk _ i j => by
         refine (a8m hb hfn hbS hSlt (hlF _ (List.get_mem l i)) (hlF _ (List.get_mem l j)) (hg _ (List.mem_map_of_mem (List.get_mem l i)) _ (List.mem_map_of_mem (List.get_mem l j))) m dk os).mono fun e w' ⟨⟨v, F, S, ⟨hv, _, _⟩, he⟩, h⟩ => ⟨?_, h⟩;simp only [List.cons.injEq, and_true] at hv;rw [he, hv]
       have hO' : SWO (ltOf fun i j : Fin l.length => cf (l.get i).x (l.get j).x) := ⟨fun i => hO.irrefl _, fun i j k => hO.trans _ _ _, fun i j k => hO.ntrans _ _ _⟩;have hmain := Go.Proofs.Any.slices_SortFunc L (encE l) (fun i => by
         obtain ⟨A, c, h, -⟩ := hl (l.get i) (List.get_mem l i);simp only [List.cons.injEq, and_true] at h;show (l.get i).v.oneCell' = true;rw [h]; rfl) (fun i j => cf (l.get i).x (l.get j).x) hO' f caps b 0 c d w (a6T hfe) hcmp hH hblt (by omega)
       rw [hds] at hmain;refine hmain.mono fun e w' ⟨he, d', n, os, hp, hsd, hw⟩ => ?_;subst he;obtain ⟨hpz, -, hperm⟩ := hp;have ex : ∀ (a : Array (Fin l.length)) (m : Nat), m = a.size -> a.extract 0 m = a := by rintro a m rfl; exact Array.extract_size
       have e1 := ex d' l.length (by omega);have e2 := ex d l.length (by omega);rw [e1, e2] at hperm;have hdl : d.toList.map l.get = l := by
         rw [hd];apply List.ext_getElem
         . simp
         . intro i h1 h2; simp
       have hpl : (d'.toList.map l.get).Perm l := by
         have := hperm.map l.get
         rwa [hdl] at this
       obtain ⟨l', hl'⟩ : ∃ l', l' = d'.toList.map l.get := ⟨_, rfl⟩;rw [<- hl'] at hpl;obtain ⟨arr', hb', ha'⟩ := b0Q (enc := encE l) (m := n) (dk := d') (os := os) hb harr (by simp; omega);rw [<- hw] at hb';have hv' : d'.toList.map (encE l) = l'.map El.v := by rw [hl', List.map_map]; exact List.map_congr_left fun a _ => rfl
       rw [hv'] at ha';have hll : l'.length = l.length := hpl.length_eq;have hsame : ∀ k, k < w.heap.size -> k ≠ b -> w'.heap[k]? = w.heap[k]? := fun k hk hne => by rw [hw]; exact a9x hblt k hk hne
       have hrep : Rep w' (.sl RowT) .deep (l'.map El.x) [.slice (some ⟨b, 0, none⟩) l'.length c] (b :: l'.flatMap El.F) (l'.flatMap El.S) := by
         refine a8l hb' ha' ?_ hcm (by omega) fun e he => ?_
         . have := congrArg List.length ha';have h2 := congrArg List.length harr;simp only [Array.length_toList, List.length_append, List.length_map, Ty.sz, Nat.mul_one] at this h2 hsz;omega
         . obtain ⟨h1, h2, h3⟩ := hlF e (hpl.mem_iff.1 he);refine a1f _ h1 fun k hk => hsame k (a2H _ h1 k (by simpa using hk)) ?_;rintro rfl;simp only [List.mem_append] at hk;exact hk.elim h2 h3
       have hsort : l'.map El.x = b3P cf (l.map El.x) := by
         refine List.Perm.eq_of_pairwise (le := fun x y => (!ltOf cf y x) = true) ?_ ?_ ?_ ((hpl.map El.x).trans (List.mergeSort_perm _ _).symm)
         . intro x y _ _ h1 h2;simp only [Bool.not_eq_true'] at h1 h2;exact hT x y h2 h1
         . rw [hl', List.map_map, List.pairwise_map, List.pairwise_iff_getElem];intro i j hi hj hij;have hi' : i < d'.size := by simpa using hi
           have hj' : j < d'.size := by simpa using hj
           have := hsd i j (Nat.zero_le _) hij (by omega);rw [getElem!_pos d' j hj', getElem!_pos d' i hi'] at this;simp only [Array.getElem_toList, Function.comp_apply, Bool.not_eq_true'];exact this
         . refine List.pairwise_mergeSort ?_ ?_ _
           . intro x y z h1 h2;simp only [Bool.not_eq_true'] at h1 h2 ⊢;exact hO.ntrans _ _ _ h2 h1
           . intro x y;cases h : ltOf cf y x with
             | false => rfl
             | true =>
               cases h2 : ltOf cf x y with
               | false => rfl
               | true => have := hO.irrefl x; rw [hO.trans _ _ _ h2 h] at this; cases this
       rw [hsort, hll] at hrep;have hFp : (l'.flatMap El.F).Perm (l.flatMap El.F) := hpl.flatMap_right El.F;have hSp : (l'.flatMap El.S).Perm (l.flatMap El.S) := hpl.flatMap_right El.S;refine ⟨[], [], [], b :: l'.flatMap El.F, l'.flatMap El.S, rfl, ⟨rfl, rfl, rfl⟩, ⟨_, _, b :: l'.flatMap El.F, [], l'.flatMap El.S, [], rfl, by simp, by simp, ⟨_, hrep, rfl⟩, ⟨_, _, rfl, rfl, rfl⟩⟩, ?_, ?_, ?_, ?_, ?_⟩
       . exact ((hFp.cons b).nodup_iff).2 hMn
       . intro k hk;simp only [List.nil_append, List.mem_cons, hFp.mem_iff] at hk;exact .inr (by simpa using hk)
       . intro k hk;simp only [List.nil_append, hSp.mem_iff] at hk;refine ⟨fun h => ?_, fun _ => .inl (by simp [hk])⟩;simp only [List.nil_append, List.mem_cons, hFp.mem_iff] at h;exact hMS k (by simpa using h) (by simp [hk])
       . intro k hk hkM;exact hsame k hk (by rintro rfl; exact hkM (by simp))
       . rw [hw]; exact b0P
   . cases ho
 next => cases hF
end Go.Vm
end
section
namespace Go.Vm
open Go.Proofs (sortWorld OneCell SW)
open Go.Sort (Holds)
open Go.Lib (keptUpTo)
variable {P : Program}
abbrev compS : Sig := ⟨[.tk false (.sl RowT) .deep, .fnx (fn2 .bool)], [(.val false, .sl RowT, .deep)]⟩
open Classical in
noncomputable def compF (d : Ins compS.ps) : Option (Outs compS.outs × Muts compS.ps) :=
 if (∀ x ∈ ([] : List Int) :: d.1, ∀ y ∈ ([] : List Int) :: d.1, d.2.1 (x, y, ()) = some (decide (x = y), ())) /\ d.1.length < 4611686018427387904 then some ((a7G d.1, ()), ()) else none
def CompOK (P : Program) (f : FuncId) : Prop := a5G P f /\ (∀ p cap fv w, Calls P f #[.slice p 0 cap, fv] w fun e w' => e = .returned (.slice p 0 cap) /\ w' = w) ∧
 ∀ {α : Type} [Inhabited α] (enc : α -> Value) (hO : OneCell enc) (eq : α -> α -> Bool) (zr : α) (hz : enc zr = .slice none 0 0) (g : Nat) (cb : Array Value) (eg : ∀ args w, (callFunc g args).run P w = .ok (.enter g args) w)
   (blk off cap : Nat) (d : Array α) (w : World) (hcmp : a9B P g cb enc eq blk off d.size w) (hH : Holds enc w blk off d) (hblk : blk < w.heap.size) (hsz : d.size < 4611686018427387904) (hcap : d.size ≤ cap) (kp : Nat -> Bool) (hkp0 : kp 0 = true) (hkp : ∀ j, 0 < j -> kp j = !(eq d[j]! d[j - 1]!)),
   Calls P f #[.slice (some ⟨blk, off, none⟩) d.size cap, .func (.func g) #[] cb] w fun e w' => e = .returned (.slice (some ⟨blk, off, none⟩) (keptUpTo kp d d.size).length cap) /\ SW enc w blk off (keptUpTo kp d d.size ++ List.replicate (d.size - (keptUpTo kp d d.size).length) zr).toArray w'
theorem b0j {α β : Type} (f : α -> List β) {l l' : List α} (h : l'.Sublist l) : (l'.flatMap f).Sublist (l.flatMap f) := by
 induction h with
 | slnil => exact List.Sublist.refl _
 | cons a _ ih => rw [List.flatMap_cons]; exact ih.trans (List.sublist_append_right _ _)
 | cons_cons a _ ih => rw [List.flatMap_cons, List.flatMap_cons]; exact (List.Sublist.refl _).append ih
theorem comp_sound {f0 : FuncId} (hW : CompOK P f0) : a2u P ⟨f0, compS, compF⟩ := by
 obtain ⟨hE, hnone, hwalk⟩ := hW;refine ⟨hE, ?_⟩;rintro ⟨xs, g, ⟨⟩⟩ r hF w vs M S A hA hMn hMS;have e0 : a7G [] = [] := rfl;simp only [compF] at hF;split at hF
 next hgn =>
   obtain ⟨hg, hn⟩ := hgn;simp only [Option.some.injEq] at hF;subst hF;obtain ⟨v1, vs1, M1, M2, S1, S2, A1, A2, rfl, rfl, rfl, rfl, ⟨rfl, us, hr, hsh⟩, v2, vs2, M3, M4, S3, S4, A3, A4, rfl, rfl, rfl, rfl, ⟨rfl, f, caps, rfl, hfe, hSlt, hAS, hfn⟩, rfl, rfl, rfl, rfl⟩ := hA;have hsh : us = [v1] := by simpa [a0F] using hsh
   subst hsh;have hr0 := hr;obtain ⟨A0, c, hv, hc, hcase⟩ := hr;simp only [List.cons.injEq, and_true] at hv;subst hv;rcases hcase with ⟨rfl, rfl, rfl, hc0⟩ | ⟨-, b, arr, et, us, sp, F', rfl, hb, harr, ⟨hsz, hcm⟩, hrl, rfl⟩ | ⟨ho, -⟩
   . refine (hnone A0 c (.func (.func f) #[] caps) w).mono fun e w' ⟨he, hw⟩ => ?_;subst he hw;exact ⟨[_], [], [], [], [], rfl, ⟨_, [], [], [], [], [], rfl, rfl, rfl, ⟨_, e0.symm ▸ hr0, rfl⟩, rfl, rfl, rfl⟩, ⟨_, _, rfl, ⟨_, _, rfl, rfl, rfl⟩⟩, by simp, by simp, by simp, fun _ _ _ => rfl, Bel.refl _⟩
   . obtain ⟨l, rfl, rfl, rfl, rfl, hl⟩ := b3a hrl;simp only [List.append_nil] at hMn hMS hn;have hbS : b ∉ S3 := fun h => hMS b (by simp) (by simp [h]);have hlF : ∀ e ∈ l, ElG w b e /\ e.x ∈ ([] : List Int) :: l.map El.x := fun e he => ⟨⟨hl e he, fun h => by
       simp only [List.nodup_cons, List.mem_flatMap, not_exists, not_and] at hMn;exact hMn.1 e he h, fun h => hMS b (by simp) (by simp only [List.mem_append, List.mem_flatMap]; exact .inl ⟨e, he, h⟩)⟩, by simp only [List.mem_cons, List.mem_map]; exact .inr ⟨e, he, rfl⟩⟩
     simp only [List.length_map] at hn hc ⊢;have hblt : b < w.heap.size := by
       rcases Nat.lt_or_ge b w.heap.size with h | h
       . exact h
       . rw [Array.getElem?_eq_none h] at hb; cases hb
     obtain ⟨Q, hQ⟩ : ∃ Q : El -> Prop, ∀ e, Q e ↔ ElG w b e /\ e.x ∈ ([] : List Int) :: l.map El.x := ⟨_, fun _ => Iff.rfl⟩;have hlQ : ∀ e ∈ l, Q e := fun e he => (hQ e).2 (hlF e he);obtain ⟨zr, hzr⟩ : ∃ z : {e : El // Q e}, z.1 = ⟨[], .slice none 0 0, [], []⟩ := ⟨⟨⟨[], .slice none 0 0, [], []⟩, (hQ _).2 ⟨⟨⟨none, 0, rfl, Nat.le_refl _, .inl ⟨rfl, rfl, rfl, fun _ => rfl⟩⟩, by simp, by simp⟩, by simp⟩⟩, rfl⟩
     haveI : Inhabited {e : El // Q e} := ⟨zr⟩
     obtain ⟨d, hd⟩ : ∃ d : Array {e : El // Q e}, d = (l.attachWith _ hlQ).toArray := ⟨_, rfl⟩;have hdl : d.toList.map (·.1) = l := by rw [hd]; simp
     have hds : d.size = l.length := by rw [hd]; simp
     obtain ⟨enc, henc⟩ : ∃ enc : {e : El // Q e} -> Value, enc = fun a => a.1.v := ⟨_, rfl⟩;have hdv : d.toList.map enc = l.map El.v := by rw [henc, <- hdl, List.map_map]; rfl
     have hdx : d.toList.map (fun a => a.1.x) = l.map El.x := by
       conv => rhs; rw [<- hdl]
       rw [List.map_map]; rfl
     have hH : Go.Sort.Holds enc w b 0 d := fun j hj => by
       have h1 := a0S hb harr j (enc d[j]!) (by rw [<- hdv, getElem!_pos d j hj]; simp [hj]);have h2 : (⟨b, 0, none⟩ : Addr).add j = ⟨b, 0 + j, none⟩ := by unfold Addr.add; split <;> simp_all
       rw [h2] at h1;refine ⟨h1, ?_⟩;unfold World.frozen?;simp [hb]
     have hcmp : a9B P f caps enc (fun x y => decide (x.1.x = y.1.x)) b 0 d.size w := fun m os dk _ i j => by
       have h := a8m (enc := enc) hb hfn hbS hSlt ((hQ _).1 i.2).1 ((hQ _).1 j.2).1 (hg _ ((hQ _).1 i.2).2 _ ((hQ _).1 j.2).2) m dk os;rw [henc] at h ⊢;refine h.mono fun e w' ⟨⟨v, F, S, ⟨hv, _, _⟩, he⟩, h⟩ => ⟨?_, h⟩;simp only [List.cons.injEq, and_true] at hv;rw [he, hv]
     have hmain := hwalk enc (fun i => by
       obtain ⟨A, c, h, -⟩ := ((hQ _).1 i.2).1.rep;simp only [List.cons.injEq, and_true] at h;rw [henc];show i.1.v.oneCell' = true;rw [h]; rfl) (fun x y => decide (x.1.x = y.1.x)) zr (by rw [henc]; show zr.1.v = _; rw [hzr]) f caps (a6T hfe) b 0 c d w hcmp hH hblt (by omega) (by omega) (a5U (fun a => a.1.x) d) (by simp [a5U]) (fun j hj => by
         have : j ≠ 0 := by omega
         simp [a5U, this])
     rw [hds] at hmain;refine hmain.mono fun e w' ⟨he, n, os, hw⟩ => ?_;subst he;obtain ⟨K, hK⟩ : ∃ K, K = keptUpTo (a5U (fun a : {e : El // Q e} => a.1.x) d) d d.size := ⟨_, rfl⟩;have hK' : keptUpTo (a5U (fun a : {e : El // Q e} => a.1.x) d) d l.length = K := by rw [hK, hds]
     rw [hK'] at hw ⊢;have hKs : K.Sublist d.toList := by rw [hK]; exact b2o _ d
     have hKx : K.map (fun a => a.1.x) = a7G (l.map El.x) := by
       rw [hK, a6V (fun a : {e : El // Q e} => a.1.x) d d.size (Nat.le_refl _), <- hdx, List.take_of_length_le (by simp)]
     obtain ⟨l', hl'⟩ : ∃ l', l' = K.map (·.1) := ⟨_, rfl⟩;have hls : l'.Sublist l := by rw [hl', <- hdl]; exact hKs.map _
     have hll : l'.length = K.length := by rw [hl']; simp
     have hlle : l'.length ≤ l.length := hls.length_le;obtain ⟨arr', hb', ha'⟩ := b0Q (enc := enc) (m := n) (dk := (K ++ List.replicate (l.length - K.length) zr).toArray) (os := os) hb harr (by simp; omega);rw [<- hw] at hb';have hv' : K.map enc = l'.map El.v := by rw [hl', henc, List.map_map]; rfl
     simp only [List.map_append, hv', List.append_assoc] at ha';have hsame : ∀ k, k < w.heap.size -> k ≠ b -> w'.heap[k]? = w.heap[k]? := fun k hk hne => by rw [hw]; exact a9x hblt k hk hne
     have hrep : Rep w' (.sl RowT) .deep (l'.map El.x) [.slice (some ⟨b, 0, none⟩) l'.length c] (b :: l'.flatMap El.F) (l'.flatMap El.S) := by
       refine a8l hb' ha' ?_ hcm (by omega) fun e he => ?_
       . have := congrArg List.length ha';have h2 := congrArg List.length harr;simp only [Array.length_toList, List.length_append, List.length_map, List.length_replicate, Ty.sz, Nat.mul_one] at this h2 hsz;omega
       . obtain ⟨⟨h1, h2, h3⟩, -⟩ := hlF e (hls.subset he);refine a1f _ h1 fun k hk => hsame k (a2H _ h1 k (by simpa using hk)) ?_;rintro rfl;simp only [List.mem_append] at hk;exact hk.elim h2 h3
     have hx' : l'.map El.x = a7G (l.map El.x) := by rw [<- hKx, hl', List.map_map]; rfl
     rw [hx', hll] at hrep;have hFs := b0j El.F hls;have hSs := b0j El.S hls;refine ⟨[_], b :: l'.flatMap El.F, l'.flatMap El.S, [], [], rfl, ⟨_, [], b :: l'.flatMap El.F, [], l'.flatMap El.S, [], rfl, by simp, by simp, ⟨_, hrep, rfl⟩, rfl, rfl, rfl⟩, ⟨_, _, rfl, ⟨_, _, rfl, rfl, rfl⟩⟩, ?_, ?_, ?_, ?_, ?_⟩
     . simp only [List.append_nil];exact (hFs.cons_cons b).nodup hMn
     . intro k hk;simp only [List.append_nil] at hk;exact .inr (by simpa using (hFs.cons_cons b).subset hk)
     . intro k hk;simp only [List.append_nil] at hk ⊢;refine ⟨fun h => ?_, fun _ => .inl (by simp [hSs.subset hk])⟩;exact hMS k (by simpa using (hFs.cons_cons b).subset h) (by simp [hSs.subset hk])
     . intro k hk hkM;exact hsame k hk (by rintro rfl; exact hkM (by simp))
     . rw [hw]; exact b0P
   . cases ho
 next => cases hF
end Go.Vm
end
section
namespace Go.Vm
open Go.Sort (SWO)
open Go.Proofs (ltOf)
def ordL : List Int -> List Int -> Int
 | [], [] => 0
 | [], _ :: _ => -1
 | _ :: _, [] => 1
 | a :: x, b :: y => if a < b then -1 else if b < a then 1 else ordL x y
def ordS (x y : List Int) : Int := if x.length < y.length then -1 else if y.length < x.length then 1 else ordL x y
theorem b0H : ∀ x y, ordL x y < 0 ↔ 0 < ordL y x
 | [], [] => by simp [ordL]
 | [], _ :: _ => by simp [ordL]
 | _ :: _, [] => by simp [ordL]
 | a :: x, b :: y => by
   simp only [ordL];have := b0H x y;split <;> (try split) <;> (try split) <;> omega
theorem a8L : ∀ x y, ordL x y = 0 -> x = y
 | [], [], _ => rfl
 | [], _ :: _, h => by simp [ordL] at h
 | _ :: _, [], h => by simp [ordL] at h
 | a :: x, b :: y, h => by
   simp only [ordL] at h;split at h
   . omega
   . split at h
     . omega
     . rw [a8L x y h, show a = b by omega]
theorem a6f : ∀ x y z, ordL x y < 0 -> ordL y z < 0 -> ordL x z < 0
 | [], [], _, h, _ => by simp [ordL] at h
 | [], _ :: _, [], _, h => by simp [ordL] at h
 | [], _ :: _, _ :: _, _, _ => by simp [ordL]
 | _ :: _, [], _, h, _ => by simp [ordL] at h
 | _ :: _, _ :: _, [], _, h => by simp [ordL] at h
 | a :: x, b :: y, c :: z, h1, h2 => by
   simp only [ordL] at *;have := a6f x y z;split at h1
   . split at h2
     . rw [if_pos (by omega)]; omega
     . split at h2
       . omega
       . rw [if_pos (by omega)]; omega
   . split at h1
     . omega
     . split at h2
       . rw [if_pos (by omega)]; omega
       . split at h2
         . omega
         . rw [if_neg (by omega), if_neg (by omega)]; exact this h1 h2
theorem a5A (x y : List Int) : ordS x y < 0 ↔ 0 < ordS y x := by
 have := b0H x y;unfold ordS;split <;> (try split) <;> (try split) <;> omega
theorem a8M (x y : List Int) (h : ordS x y = 0) : x = y := by
 unfold ordS at h;split at h
 . omega
 . split at h
   . omega
   . exact a8L x y h
theorem a6g (x y z : List Int) (h1 : ordS x y < 0) (h2 : ordS y z < 0) : ordS x z < 0 := by
 have := a6f x y z;unfold ordS at *;split at h1
 . rw [if_pos]
   . omega
   . split at h2
     . omega
     . split at h2 <;> omega
 . split at h1
   . omega
   . split at h2
     . rw [if_pos (by omega)]; omega
     . split at h2
       . omega
       . rw [if_neg (by omega), if_neg (by omega)]; exact this h1 h2
theorem ordS_swo : SWO (ltOf ordS) := by
 have hn : ∀ x y : List Int, ltOf ordS x y = true ↔ ordS x y < 0 := fun x y => by simp [ltOf]
 have hf : ∀ x y : List Int, ltOf ordS x y = false ↔ ¬ ordS x y < 0 := fun x y => by simp [ltOf]
 refine ⟨fun x => ?_, fun x y z => ?_, fun x y z => ?_⟩
 . rw [hf]; have := a5A x x; omega
 . rw [hn, hn, hn]; exact a6g x y z
 . rw [hf, hf, hf];intro h1 h2 h3;rcases Int.lt_trichotomy (ordS y x) 0 with h | h | h
   . have := a6g y x z h h3;exact h2 this
   . have := a8M y x h; subst this; exact h2 h3
   . exact h1 ((a5A x y).2 h)
theorem ordS_tot (x y : List Int) (h1 : ltOf ordS x y = false) (h2 : ltOf ordS y x = false) : x = y := by
 simp only [ltOf, decide_eq_false_iff_not] at h1 h2;have := a5A x y;have := a5A y x;exact a8M x y (by omega)
end Go.Vm
end
