/- The law of the stream, in plain words. -/
import Derived.Test.YtfafjbolmeimmaaDoorF20
import Derived.Test.YtfafjbolmeimmaaDoorF11
import Derived.Test.YtfafjbolmeimmaaDoorXStP
import Derived.Test.YtfafjbolmeimmaaDoorXDs
import Derived.Test.YtfafjbolmeimmaaDoorXLdc
namespace Go.Proofs.YtfafjbolmeimmaaDoor.P
open Go.RowKit Go.Proofs.YtfafjbolmeimmaaDoorW.PrintWords Go.Proofs.YtfafjbolmeimmaaDoorW.PrintMore
set_option linter.unusedVariables false
theorem stp_brk {P : Nat → Nat → Pc} {E : Nat} (G : Good P E) {e : Nat} (he : e ≤ E) (m : Bool) (i : Nat) : ∀ b ∈ (stp P e m i).2.1, (i : Int) ≤ b ∧ b < (e : Int) := by
 refine stp_ind G he (motive := fun i => ∀ b ∈ (stp P e m i).2.1, (i : Int) ≤ b ∧ b < (e : Int)) ?_ ?_ i
 ·intro i h b hb
  rw [stp_end h] at hb
  cases hb
 intro i h ih b hb
 have hp := G.pos i e h he
 by_cases hw : (P i e).2.2.2 = true ∧ m = true
 ·obtain ⟨h1, rfl⟩ := hw
  rw [stp_wait h1] at hb
  cases hb
 rw [stp_go h hp.1 hw] at hb
 dsimp only at hb
 split at hb
 ·rcases List.mem_cons.1 hb with rfl | hb
  ·omega
  have := ih b hb
  omega
 have := ih b hb
 omega
theorem txt_append (l r : List Int) : txt (l ++ r) = txt l ++ txt r := by
 apply bytesOf_inj
 have : ∀ s t : ByteArray, bytesOf (s ++ t) = bytesOf s ++ bytesOf t := by
  intro s t
  unfold bytesOf
  rw [ByteArray.data_append, Array.toList_append, List.map_append]
 rw [this, bytesOf_txt, bytesOf_txt, bytesOf_txt]
 unfold txtB
 rw [List.flatMap_append]
theorem decode_l (f : Int) (hf : 1 ≤ f ∧ f ≤ 5) (D : ByteArray) (hD : D.size ≤ 1099511627776) (u e : Nat) (hue : u ≤ e) (he : e ≤ D.size) (more : Bool) :
  ∀ i, u ≤ i → i ≤ e → ∀ bacc pacc : List Int, bacc.length ≤ i → pacc.length ≤ i → Ev (fun k => zaQ.l0 k f (D.extract u e) more bacc pacc ((i - u : Nat) : Int)) (txt (pacc ++ (stp (pcF f D) e more i).1), bacc ++ (stp (pcF f D) e more i).2.1.map (fun b => b - (u : Int)), D.extract (stp (pcF f D) e more i).2.2 e) := by
 have G := pcF_good f D D.size
 have hsz := size_ext D u e hue he
 have wr : ∀ l : List Int, l.length ≤ 1099511627776 → ∀ k, impl_write.f k l = some (txt l) := fun l hl k => by unfold impl_write.f; rw [if_pos (by omega)]
 refine stp_ind G he (motive := fun i => u ≤ i → i ≤ e → ∀ bacc pacc : List Int, bacc.length ≤ i → pacc.length ≤ i → Ev (fun k => zaQ.l0 k f (D.extract u e) more bacc pacc ((i - u : Nat) : Int)) (txt (pacc ++ (stp (pcF f D) e more i).1), bacc ++ (stp (pcF f D) e more i).2.1.map (fun b => b - (u : Int)), D.extract (stp (pcF f D) e more i).2.2 e)) ?_ ?_
 ·intro i h hui hie bacc pacc hb hp
  refine Ev.step (fun k => by rw [zaQ.l0]) ?_
  refine Ev.neg (by omega) (Ev.bind (a := txt pacc) ⟨0, fun k _ => wr pacc (by omega) k⟩ (Ev.pos (by omega) (Ev.pos (by omega) ((Ev.now _).to ?_))))
  rw [stp_end h, Int.toNat_natCast, ext_end D u e (i - u) hue he]
  simp only [List.append_nil, List.map_nil]
  rw [show u + (i - u) = i by omega]
 intro i h ih hui hie bacc pacc hb hp
 have hpos := G.pos i e h he
 refine Ev.step (fun k => by rw [zaQ.l0]) ?_
 refine Ev.pos (by omega) (Ev.pos (by omega) (Ev.pos (by omega) ?_))
 rw [Int.toNat_natCast, ext_end D u e (i - u) hue he, show u + (i - u) = i by omega]
 refine Ev.bind (piece_ev f hf D hD i e h he) ?_
 dsimp only
 have stop : (pcF f D i e).2.2.2 = true → more = true → Ev (fun k => zaQ.j1 k f (D.extract u e) more bacc pacc ((i - u : Nat) : Int) (pcF f D i e).1 ((pcF f D i e).2.1 : Int) (pcF f D i e).2.2.1 true) (txt (pacc ++ (stp (pcF f D) e more i).1), bacc ++ (stp (pcF f D) e more i).2.1.map (fun b => b - (u : Int)), D.extract (stp (pcF f D) e more i).2.2 e) := by
  rintro h1 rfl
  refine Ev.step (fun k => by rw [zaQ.j1]) (Ev.pos rfl (Ev.bind (a := txt pacc) ⟨0, fun k _ => wr pacc (by omega) k⟩ ?_))
  refine Ev.pos (by omega) (Ev.pos (by omega) ((Ev.now _).to ?_))
  rw [stp_wait h1, Int.toNat_natCast, ext_end D u e (i - u) hue he]
  simp only [List.append_nil, List.map_nil]
  rw [show u + (i - u) = i by omega]
 have go : ¬ ((pcF f D i e).2.2.2 = true ∧ more = true) → Ev (fun k => zaQ.j1 k f (D.extract u e) more bacc pacc ((i - u : Nat) : Int) (pcF f D i e).1 ((pcF f D i e).2.1 : Int) (pcF f D i e).2.2.1 false) (txt (pacc ++ (stp (pcF f D) e more i).1), bacc ++ (stp (pcF f D) e more i).2.1.map (fun b => b - (u : Int)), D.extract (stp (pcF f D) e more i).2.2 e) := by
  intro hw
  rw [stp_go h hpos.1 hw]
  have ew : wrap64 (((i - u : Nat) : Int) + ((pcF f D i e).2.1 : Int)) = ((i + (pcF f D i e).2.1 - u : Nat) : Int) := by
   have h1 := hpos.2
   generalize (pcF f D i e).2.1 = n at *
   rw [w64 (by omega) (by omega)]
   omega
  have EW := zab.mk ew; clear ew
  refine Ev.step (fun k => by rw [zaQ.j1, EW.out]) (Ev.neg (by simp) ?_)
  cases hbk : (pcF f D i e).2.2.1 with
  | true =>
   refine Ev.pos rfl (Ev.pos (by omega) (Ev.pos (by omega) ((ih (by omega) hpos.2 _ _ (by rw [List.length_append, List.length_singleton]; omega) (by rw [List.length_append, List.length_singleton]; omega)).to ?_)))
   have e1 : ((i - u : Nat) : Int) = (i : Int) - (u : Int) := by omega
   rw [e1]
   simp
  | false =>
   refine Ev.neg (by simp) (Ev.pos (by omega) ((ih (by omega) hpos.2 _ _ (by omega) (by rw [List.length_append, List.length_singleton]; omega)).to ?_))
   simp
 by_cases hw : (pcF f D i e).2.2.2 = true
 ·refine Ev.pos hw ?_
  cases more with
  | true => exact stop hw rfl
  | false => exact go (by simp)
 exact Ev.neg hw (go (fun h2 => hw h2.1))
theorem decode_ev (f : Int) (hf : 1 ≤ f ∧ f ≤ 5) (D : ByteArray) (hD : D.size ≤ 1099511627776) (u e : Nat) (hue : u ≤ e) (he : e ≤ D.size) (more : Bool) :
  Ev (fun k => zaQ.f k f (D.extract u e) more) (txt (stp (pcF f D) e more u).1, (stp (pcF f D) e more u).2.1.map (fun b => b - (u : Int)), D.extract (stp (pcF f D) e more u).2.2 e) := by
 unfold zaQ.f
 have h := decode_l f hf D hD u e hue he more u (Nat.le_refl _) hue [] [] (by simp) (by simp)
 rw [Nat.sub_self] at h
 exact h.to (by simp)
theorem form_eq (f : Int) : impl_isForm.f f = some (decide (1 ≤ f ∧ f ≤ 5)) := by
 unfold impl_isForm.f
 rw [in_f]
 rfl
theorem sform_eq (f : Int) : spec_l02IsForm.f f = some (decide (1 ≤ f ∧ f ≤ 5)) := by
 unfold spec_l02IsForm.f
 by_cases h : f ≥ 1
 ·rw [if_pos h, Option.some.injEq, decide_eq_decide]
  omega
 rw [if_neg h, decide_eq_false (by omega)]
theorem out_l (s1 t left : ByteArray) (g : Nat) (hg : g ≤ 1099511627776) (f : Int) (held : ByteArray) (hs1 : s1.size ≤ 1099511627776) (hleft : left.size ≤ s1.size) (L : List Int) (hL : ∀ b ∈ L, 0 ≤ b ∧ b ≤ 1099511627776) (hl : L.length ≤ 1099511627776) :
  ∀ (d i : Nat), i + d = L.length → Ev (fun k => zaO.l0 k s1 t ((L.take i).map (fun b => b + (g : Int)) ++ L.drop i) left (L.length : Int) (i : Int) f held (g : Int)) (0, f, left, ((g + (s1.size - left.size) : Nat) : Int), t, L.map (fun b => b + (g : Int)))
 | 0, i, hi => by
  refine Ev.step (fun k => by rw [zaO.l0]) (Ev.neg (by omega) ((Ev.now _).to ?_))
  have e1 : wrap64 ((s1.size : Int) - (left.size : Int)) = ((s1.size - left.size : Nat) : Int) := by rw [w64 (by omega) (by omega)]; omega
  rw [e1, w_add g _ (by omega), List.take_of_length_le (by omega), List.drop_eq_nil_of_le (by omega), List.append_nil]
 | d + 1, i, hi => by
  have hlen : ((L.take i).map (fun b => b + (g : Int)) ++ L.drop i).length = L.length := by
   rw [List.length_append, List.length_map, List.length_take, List.length_drop]
   omega
  have hlt : i < L.length := by omega
  have hr : rd ((L.take i).map (fun b => b + (g : Int)) ++ L.drop i) (i : Int) = L[i] := by
   have e : ((L.take i).map (fun b => b + (g : Int))).length = i := by rw [List.length_map, List.length_take]; omega
   unfold rd
   rw [Int.toNat_natCast, List.getD_eq_getElem?_getD, List.getElem?_append_right (by omega), e, Nat.sub_self, List.getElem?_drop, Nat.add_zero, List.getElem?_eq_getElem hlt]
   rfl
  have hb := hL L[i] (List.getElem_mem hlt)
  have e2 : wrap64 (L[i] + (g : Int)) = L[i] + (g : Int) := w64 (by omega) (by omega)
  have e3 := zab.mk (w_succ i (by omega))
  refine Ev.step (fun k => by rw [zaO.l0, e3.out, hr, e2]) (Ev.pos (by omega) (Ev.pos (by omega) (Ev.pos (by rw [hlen]; omega) ((out_l s1 t left g hg f held hs1 hleft L hL hl d (i + 1) (by omega)).to rfl |> fun h => ?_))))
  rw [Int.toNat_natCast]
  have es : ((L.take i).map (fun b => b + (g : Int)) ++ L.drop i).set i (L[i] + (g : Int)) = (L.take (i + 1)).map (fun b => b + (g : Int)) ++ L.drop (i + 1) := by
   have e : ((L.take i).map (fun b => b + (g : Int))).length = i := by rw [List.length_map, List.length_take]; omega
   rw [List.set_append_right _ _ (by omega), e, Nat.sub_self, List.drop_eq_getElem_cons hlt, List.set_cons_zero, List.take_succ_eq_append_getElem hlt, List.map_append, List.append_assoc]
   rfl
  rw [es]
  exact h
theorem out_ev (f : Int) (hf : 1 ≤ f ∧ f ≤ 5) (D : ByteArray) (hD : D.size ≤ 1000000000) (u e : Nat) (hue : u ≤ e) (he : e ≤ D.size) (more : Bool) (held : ByteArray) (ht : (txt (stp (pcF f D) e more u).1).size ≤ 65536) :
  Ev (fun k => zaO.f k f held (u : Int) (D.extract u e) more) (0, f, D.extract (stp (pcF f D) e more u).2.2 e, ((stp (pcF f D) e more u).2.2 : Int), txt (stp (pcF f D) e more u).1, (stp (pcF f D) e more u).2.1) := by
 have G := pcF_good f D D.size
 have hle := stp_le G he more u hue
 have hlen := (stp_len G he more u hue).2
 have hbrk := stp_brk G he more u
 unfold zaO.f
 refine Ev.bind (decode_ev f hf D (by omega) u e hue he more) (Ev.bind (Ev.done (r := false) ?_) (Ev.neg (by simp) ?_))
 ·unfold zbw.f
  rw [decide_eq_false (by dsimp only; omega)]
 have hsz := size_ext D u e hue he
 have hsz2 := size_ext D (stp (pcF f D) e more u).2.2 e hle.2 he
 have h := out_l (D.extract u e) (txt (stp (pcF f D) e more u).1) (D.extract (stp (pcF f D) e more u).2.2 e) u (by omega) f held (by omega) (by omega) ((stp (pcF f D) e more u).2.1.map (fun b => b - (u : Int))) (by
  intro b hb
  obtain ⟨c, hc, rfl⟩ := List.mem_map.1 hb
  have := hbrk c hc
  omega) (by rw [List.length_map]; omega) _ 0 (Nat.zero_add _)
 refine h.to ?_
 rw [hsz, hsz2, List.map_map]
 have e1 : u + (e - u - (e - (stp (pcF f D) e more u).2.2)) = (stp (pcF f D) e more u).2.2 := by omega
 have e2 : ((fun b : Int => b + (u : Int)) ∘ fun b => b - (u : Int)) = id := by funext b; show b - (u : Int) + (u : Int) = b; omega
 rw [e1, e2, List.map_id]
theorem fault_ev (f : Int) (hf : 1 ≤ f ∧ f ≤ 5) (D : ByteArray) (hD : D.size ≤ 1000000000) (v e : Nat) (hve : v ≤ e) (he : e ≤ D.size) (hs : v = e ∨ (v < e ∧ (pcF f D v e).2.2.2 = true ∧ e ≤ v + 3)) :
  Ev (fun k => zaI.f k f (D.extract v e) (v : Int)) 0 := by
 have hsz := size_ext D v e hve he
 unfold zaI.f
 refine Ev.bind (Ev.done (form_eq f)) (Ev.pos (decide_eq_true hf) (Ev.neg (by omega) (Ev.neg (by omega) ?_)))
 refine Ev.step (fun k => by rw [zaI.j0]) (Ev.neg (by rw [decide_eq_false (by omega)]; simp) ?_)
 rcases hs with rfl | ⟨h1, h2, h3⟩
 ·refine Ev.pos ?_ (Ev.now _)
  rw [Lib.toList_data]
  apply List.eq_nil_of_length_eq_zero
  rw [Array.length_toList]
  show (D.extract v v).size = 0
  omega
 refine Ev.neg ?_ (Ev.bind (piece_ev f hf D (by omega) v e h1 he) (Ev.pos h2 (Ev.now _)))
 intro hn
 rw [Lib.toList_data] at hn
 have := congrArg List.length hn
 rw [Array.length_toList] at this
 have h4 : (D.extract v e).data.size = (D.extract v e).size := rfl
 rw [h4] at this
 simp at this
 omega
theorem ext_cat (D : ByteArray) (v e e' : Nat) (h1 : v ≤ e) (h2 : e ≤ e') (h3 : e' ≤ D.size) : D.extract v e ++ D.extract e e' = D.extract v e' := by
 rw [ByteArray.extract_append_extract]
 congr 1 <;> omega
theorem same_ev (a : List Int) (ha : a.length ≤ 1000000000) : Ev (fun k => zbC.f k a a) true := by
 unfold zbC.f
 refine Ev.pos rfl ?_
 have go : ∀ (d i : Nat), i + d = a.length → Ev (fun k => zbC.l0 k a a (i : Int)) true := by
  intro d
  induction d with
  | zero => intro i hi; exact Ev.step (fun k => by rw [zbC.l0]) (Ev.neg (by omega) (Ev.now _))
  | succ d ih =>
   intro i hi
   have e := zab.mk (w_succ i (by omega))
   exact Ev.step (fun k => by rw [zbC.l0, e.out]) (Ev.pos (by omega) (Ev.pos (by omega) (Ev.pos (by omega) (Ev.pos rfl (ih (i + 1) (by omega))))))
 exact go a.length 0 (by omega)
theorem lwAt_ex (l : List Int) (hl : l.length ≤ 1048576) (hb : ∀ z ∈ l, 0 ≤ z ∧ z ≤ 255) (i : Nat) (hi : i ≤ 2000) : ∃ t : Nat, laws_lwAt.f l (i : Int) 5 = some (t : Int) ∧ t ≤ 4 := by
 unfold laws_lwAt.f
 rw [if_neg (by omega)]
 by_cases h : (l.length : Int) = 0
 ·rw [if_pos h]
  exact ⟨0, rfl, by omega⟩
 rw [if_neg h]
 have e1 : Int.tmod (i : Int) (l.length : Int) = ((i % l.length : Nat) : Int) := by
  rw [Int.tmod_eq_emod_of_nonneg (by omega)]
  rfl
 have hlt : i % l.length < l.length := Nat.mod_lt _ (by omega)
 rw [e1, if_pos (by omega), if_pos (by omega), if_neg (by omega)]
 have hr : 0 ≤ rd l ((i % l.length : Nat) : Int) ∧ rd l ((i % l.length : Nat) : Int) ≤ 255 := by
  unfold rd
  rw [Int.toNat_natCast, List.getD_eq_getElem?_getD, List.getElem?_eq_getElem hlt]
  exact hb _ (List.getElem_mem hlt)
 generalize rd l ((i % l.length : Nat) : Int) = z at hr
 rw [w64 (x := z) (by omega) (by omega), Int.tmod_eq_emod_of_nonneg hr.1]
 exact ⟨(z % 5).toNat, by congr 1; omega, by omega⟩
theorem txt_le (l r : List Int) : (txt l).size ≤ (txt (l ++ r)).size := by
 rw [txt_append, ByteArray.size_append]
 omega
theorem txt_le2 (l r : List Int) : (txt r).size ≤ (txt (l ++ r)).size := by
 rw [txt_append, ByteArray.size_append]
 omega
theorem stream_l (f : Int) (hf : 1 ≤ f ∧ f ≤ 5) (D : ByteArray) (hD : D.size ≤ 65536) (l : List Int) (hl : l.length ≤ 1048576) (hb : ∀ z ∈ l, 0 ≤ z ∧ z ≤ 255) (x : Int) (ht : (txt (stp (pcF f D) D.size false 0).1).size ≤ 65536) :
  ∀ (d i e : Nat), i + d = 2000 → e ≤ D.size → (d = 0 → e = D.size) → Ev (fun k => zay.l0 k l (D.extract e D.size) (txt (stp (pcF f D) e true 0).1) (stp (pcF f D) e true 0).2.1 (i : Int) x (txt (stp (pcF f D) D.size false 0).1) (stp (pcF f D) D.size false 0).2.1 f (D.extract (stp (pcF f D) e true 0).2.2 e) ((stp (pcF f D) e true 0).2.2 : Int)) true := by
 have G := pcF_good f D D.size
 have fin : ∀ i : Nat, Ev (fun k => zay.j2 k l (D.extract D.size D.size) (txt (stp (pcF f D) D.size true 0).1) (stp (pcF f D) D.size true 0).2.1 (i : Int) false x (txt (stp (pcF f D) D.size false 0).1) (stp (pcF f D) D.size false 0).2.1 f (D.extract (stp (pcF f D) D.size true 0).2.2 D.size) ((stp (pcF f D) D.size true 0).2.2 : Int)) true := by
  intro i
  have hcat := stp_cat G (e := D.size) (e' := D.size) (Nat.le_refl _) (Nat.le_refl _) false 0 (Nat.zero_le _)
  have hle := stp_le G (e := D.size) (Nat.le_refl _) true 0 (Nat.zero_le _)
  have hst := stp_stop G (e := D.size) (Nat.le_refl _) 0 (Nat.zero_le _)
  have hall := stp_all G (e := D.size) (Nat.le_refl _) (stp (pcF f D) D.size true 0).2.2 hle.2
  have hlen1 := (stp_len G (e := D.size) (Nat.le_refl _) true 0 (Nat.zero_le _)).2
  generalize (stp (pcF f D) D.size true 0) = A at *
  obtain ⟨p1, b1, v⟩ := A
  dsimp only at *
  have hlen2 := (stp_len G (e := D.size) (Nat.le_refl _) false v hle.2).2
  have c1 := congrArg Prod.fst hcat
  have c2 := congrArg (fun q => q.2.1) hcat
  dsimp only at c1 c2
  have hts : (txt (stp (pcF f D) D.size false v).1).size ≤ 65536 := by
   have := txt_le2 p1 (stp (pcF f D) D.size false v).1
   rw [← c1] at this
   omega
  have hts1 : (txt p1).size ≤ 65536 := by
   have := txt_le p1 (stp (pcF f D) D.size false v).1
   rw [← c1] at this
   omega
  refine Ev.step (fun k => by rw [zay.j2]) (Ev.neg (by simp) ?_)
  refine Ev.bind (a := (0, f, D.extract (stp (pcF f D) D.size false v).2.2 D.size, ((stp (pcF f D) D.size false v).2.2 : Int), txt (stp (pcF f D) D.size false v).1, (stp (pcF f D) D.size false v).2.1)) ?_ ?_
  ·unfold impl_EndDecoder.f
   exact Ev.bind (fault_ev f hf D (by omega) v D.size hle.2 (Nat.le_refl _) hst) (Ev.pos rfl (Ev.bind (out_ev f hf D (by omega) v D.size hle.2 (Nat.le_refl _) false _ hts) (Ev.now _)))
  refine Ev.pos rfl (Ev.pos ?_ (Ev.pos (by dsimp only; omega) (Ev.pos ?_ (Ev.pos (by dsimp only; omega) (Ev.bind (a := true) ?_ (Ev.now _))))))
  ·rw [hall, Lib.toList_data]
   apply List.eq_nil_of_length_eq_zero
   rw [Array.length_toList]
   show (D.extract D.size D.size).size = 0
   rw [ByteArray.size_extract]
   omega
  ·dsimp only
   rw [← txt_append, ← c1]
  dsimp only
  rw [← c2]
  refine same_ev _ ?_
  rw [c2, List.length_append]
  omega
 intro d
 induction d with
 | zero =>
  intro i e hi he hz
  have he2 := hz rfl
  subst he2
  have hsz := size_ext D D.size D.size (Nat.le_refl _) (Nat.le_refl _)
  exact Ev.step (fun k => by rw [zay.l0]) (Ev.neg (by omega) (fin i))
 | succ d ih =>
  intro i e hi he hz
  have hsz := size_ext D e D.size he (Nat.le_refl _)
  refine Ev.step (fun k => by rw [zay.l0]) ?_
  by_cases hend : e = D.size
  ·subst hend
   exact Ev.neg (by omega) (fin i)
  refine Ev.pos (by omega) ?_
  rw [decide_eq_true (show (i : Int) < 2000 by omega)]
  obtain ⟨t, h1, h2⟩ := lwAt_ex l hl hb i (by omega)
  refine Ev.step (fun k => by rw [zay.j2]) (Ev.pos rfl (Ev.bind (Ev.done h1) ?_))
  have ew : wrap64 (1 + (t : Int)) = ((1 + t : Nat) : Int) := by rw [w64 (by omega) (by omega)]; omega
  rw [ew]
  clear ew
  have e3 := zab.mk (w_succ i (by omega))
  have go : ∀ n : Nat, 1 ≤ n → e + n ≤ D.size → (d = 0 → e + n = D.size) → Ev (fun k => zay.j4 k l (D.extract e D.size) (txt (stp (pcF f D) e true 0).1) (stp (pcF f D) e true 0).2.1 (i : Int) (n : Int) x (txt (stp (pcF f D) D.size false 0).1) (stp (pcF f D) D.size false 0).2.1 f (D.extract (stp (pcF f D) e true 0).2.2 e) ((stp (pcF f D) e true 0).2.2 : Int)) true := by
   intro n hn1 hn2 hn3
   have hcat := stp_cat G (e := e) (e' := e + n) (by omega) hn2 true 0 (Nat.zero_le _)
   have hcat2 := stp_cat G (e := e + n) (e' := D.size) hn2 (Nat.le_refl _) false 0 (Nat.zero_le _)
   have hle := stp_le G (e := e) he true 0 (Nat.zero_le _)
   have hst := stp_stop G (e := e) he 0 (Nat.zero_le _)
   have hle2 := stp_le G (e := e + n) hn2 true 0 (Nat.zero_le _)
   have hst2 := stp_stop G (e := e + n) hn2 0 (Nat.zero_le _)
   have hlen1 := (stp_len G (e := e) he true 0 (Nat.zero_le _)).2
   have ih2 := ih (i + 1) (e + n) (by omega) hn2 hn3
   have c3 := congrArg Prod.fst hcat2
   dsimp only at c3
   have hts2 : (txt (stp (pcF f D) (e + n) true 0).1).size ≤ 65536 := by
    have := txt_le (stp (pcF f D) (e + n) true 0).1 (stp (pcF f D) D.size false (stp (pcF f D) (e + n) true 0).2.2).1
    rw [← c3] at this
    omega
   generalize (stp (pcF f D) e true 0) = A at *
   obtain ⟨p1, b1, v⟩ := A
   dsimp only at *
   have hlen2 := (stp_len G (e := e + n) hn2 true v (by omega)).2
   rw [hcat] at ih2 hle2 hst2 hts2
   dsimp only at ih2 hle2 hst2 hts2
   have hts : (txt (stp (pcF f D) (e + n) true v).1).size ≤ 65536 := by
    have := txt_le2 p1 (stp (pcF f D) (e + n) true v).1
    omega
   have hts1 : (txt p1).size ≤ 65536 := by
    have := txt_le p1 (stp (pcF f D) (e + n) true v).1
    omega
   refine Ev.step (fun k => by rw [zay.j4, e3.out]) (Ev.pos (by omega) (Ev.pos (by omega) ?_))
   rw [Int.toNat_natCast, ext2 D e D.size 0 n (by omega), Nat.add_zero, ext_end D e D.size n he (Nat.le_refl _)]
   refine Ev.bind (a := (0, f, D.extract (stp (pcF f D) (e + n) true v).2.2 (e + n), ((stp (pcF f D) (e + n) true v).2.2 : Int), txt (stp (pcF f D) (e + n) true v).1, (stp (pcF f D) (e + n) true v).2.1)) ?_ ?_
   ·have hs1 := size_ext D v e hle.2 he
    have hs2 := size_ext D e (e + n) (by omega) hn2
    unfold impl_FeedDecoder.f
    refine Ev.bind (Ev.done (r := false) ?_) (Ev.neg (by simp) (Ev.bind (fault_ev f hf D (by omega) v e hle.2 he hst) (Ev.pos rfl (Ev.pos (by omega) ?_))))
    ·unfold zbw.f
     rw [decide_eq_false (by omega)]
    rw [ext_cat D v e (e + n) hle.2 (by omega) hn2]
    exact Ev.bind (out_ev f hf D (by omega) v (e + n) (by omega) hn2 true _ hts) (Ev.now _)
   refine Ev.pos rfl (Ev.bind (fault_ev f hf D (by omega) _ (e + n) hle2.2 hn2 hst2) (Ev.pos rfl (Ev.pos (by dsimp only; omega) (Ev.pos (by dsimp only; omega) ?_))))
   dsimp only
   rw [← txt_append]
   exact ih2
  have jn : ∀ (b : Bool) (n : Nat), (b = false → 1 ≤ n ∧ e + n ≤ D.size ∧ d ≠ 0) → Ev (fun k => zay.j3 k l (D.extract e D.size) (txt (stp (pcF f D) e true 0).1) (stp (pcF f D) e true 0).2.1 (i : Int) (n : Int) b x (txt (stp (pcF f D) D.size false 0).1) (stp (pcF f D) D.size false 0).2.1 f (D.extract (stp (pcF f D) e true 0).2.2 e) ((stp (pcF f D) e true 0).2.2 : Int)) true := by
   intro b n hbn
   refine Ev.step (fun k => by rw [zay.j3]) ?_
   cases b with
   | true =>
    refine Ev.pos rfl ?_
    rw [hsz]
    exact go (D.size - e) (by omega) (by omega) (fun _ => by omega)
   | false =>
    obtain ⟨q1, q2, q3⟩ := hbn rfl
    exact Ev.neg (by simp) (go n q1 q2 (fun h => absurd h q3))
  by_cases hk : ((1 + t : Nat) : Int) > ((D.extract e D.size).size : Int)
  ·exact Ev.pos hk (jn true (1 + t) (fun h => by cases h))
  refine Ev.neg hk (jn _ (1 + t) (fun h => ⟨by omega, by omega, fun h0 => ?_⟩))
  have : i = 1999 := by omega
  subst this
  simp at h
theorem law_Stream (l0 l1 : List Int) (hb : ∀ z ∈ l1, 0 ≤ z ∧ z ≤ 255) : ∃ k, zay.f k l0 l1 = some true := by
 apply Ev.rounds
 unfold zay.f
 have long : Ev (fun k => zay.j0 k l0 l1 true) true := Ev.step (fun k => by rw [zay.j0]) (Ev.pos rfl (Ev.now _))
 by_cases h0 : (l0.length : Int) > 1048576
 ·exact Ev.pos h0 long
 refine Ev.neg h0 ?_
 by_cases h1 : (l1.length : Int) > 1048576
 ·rw [decide_eq_true h1]; exact long
 rw [decide_eq_false h1]
 obtain ⟨f, D, hd, hs⟩ := drawDecode l0 (by omega)
 refine Ev.step (fun k => by rw [zay.j0]) (Ev.neg (by simp) (Ev.bind hd ?_))
 have idec : ∀ c : Int, c ≠ 0 → ∀ (t : ByteArray) (b : List Int), (∃ t' b', Ev (fun k => impl_Decode.f k f D) (c, t', b')) → Ev (fun k => spec_Decode.f k f D) (c, t, b) → Ev (fun k => (spec_Decode.f k f D).bind fun bt626 => (if bt626.1 = 0 then (zay.l0 k l1 D (⟨#[]⟩ : ByteArray) (([] : List Int)) 0 bt626.1 bt626.2.1 bt626.2.2 f (⟨#[]⟩ : ByteArray) 0) else ((impl_Decode.f k f D).bind fun bt632 => (some (bt632.1 == bt626.1))))) true := by
  rintro c hc t b ⟨t', b', hi⟩ hsp
  exact Ev.bind hsp (Ev.neg hc (Ev.bind hi ((Ev.now _).to (by simp))))
 by_cases hz : (D.size : Int) > 65536
 ·refine idec 2 (by decide) ⟨#[]⟩ [] ⟨⟨#[]⟩, [], ?_⟩ ?_
  ·unfold impl_Decode.f
   exact Ev.bind (Ev.done (r := true) (by unfold zbw.f; rw [decide_eq_true hz])) (Ev.pos rfl (Ev.now _))
  unfold spec_Decode.f
  exact Ev.pos hz (Ev.now _)
 have il : zbw.f D = some false := by unfold zbw.f; rw [decide_eq_false hz]
 by_cases hf : 1 ≤ f ∧ f ≤ 5
 ·have G := pcF_good f D D.size
  have hD0 : D.extract 0 D.size = D := ByteArray.extract_zero_size
  have hsd : ∀ k, spec_l02Decode.f k f D true = some ((stp (pcF f D) D.size false 0).1, (stp (pcF f D) D.size false 0).2.1, ((stp (pcF f D) D.size false 0).2.2 : Int)) := fun k => by
   unfold spec_l02Decode.f
   rw [if_pos ⟨hf.1, hf.2, by omega⟩]
   rfl
  have hln := (stp_len G (Nat.le_refl _) false 0 (Nat.zero_le _)).1
  by_cases ht : ((txt (stp (pcF f D) D.size false 0).1).size : Int) > 65536
  ·refine idec 2 (by decide) ⟨#[]⟩ [] ⟨⟨#[]⟩, [], ?_⟩ ?_
   ·unfold impl_Decode.f
    refine Ev.bind (Ev.done il) (Ev.neg (by simp) (Ev.bind (Ev.done (form_eq f)) (Ev.pos (decide_eq_true hf) ?_)))
    have h := decode_ev f hf D (by omega) 0 D.size (Nat.zero_le _) (Nat.le_refl _) false
    rw [hD0] at h
    exact Ev.bind h (Ev.bind (Ev.done (r := true) (by unfold zbw.f; rw [decide_eq_true ht])) (Ev.pos rfl (Ev.now _)))
   unfold spec_Decode.f
   exact Ev.neg hz (Ev.bind (Ev.done (sform_eq f)) (Ev.pos (decide_eq_true hf) (Ev.bind ⟨0, fun k _ => hsd k⟩ (Ev.bind (text_f (stp (pcF f D) D.size false 0).1 (by omega)) (Ev.pos ht (Ev.now _))))))
  refine Ev.bind (a := (0, txt (stp (pcF f D) D.size false 0).1, (stp (pcF f D) D.size false 0).2.1)) ?_ (Ev.pos rfl ?_)
  ·unfold spec_Decode.f
   exact Ev.neg hz (Ev.bind (Ev.done (sform_eq f)) (Ev.pos (decide_eq_true hf) (Ev.bind ⟨0, fun k _ => hsd k⟩ (Ev.bind (text_f (stp (pcF f D) D.size false 0).1 (by omega)) (Ev.neg ht (Ev.now _))))))
  have h := stream_l f hf D (by omega) l1 (by omega) hb 0 (by omega) 2000 0 0 (by omega) (Nat.zero_le _) (fun h => by omega)
  rw [stp_end (e := 0) (by omega), hD0] at h
  have e0 : D.extract 0 0 = ⟨#[]⟩ := by
   apply bytesOf_inj
   unfold bytesOf
   rw [Lib.extract_data]
   simp
  rw [e0] at h
  exact h
 refine idec 1 (by decide) ⟨#[]⟩ [] ⟨⟨#[]⟩, [], ?_⟩ ?_
 ·unfold impl_Decode.f
  exact Ev.bind (Ev.done il) (Ev.neg (by simp) (Ev.bind (Ev.done (form_eq f)) (Ev.neg (by rw [decide_eq_false hf]; simp) (Ev.now _))))
 unfold spec_Decode.f
 exact Ev.neg hz (Ev.bind (Ev.done (sform_eq f)) (Ev.neg (by rw [decide_eq_false hf]; simp) (Ev.now _)))
end Go.Proofs.YtfafjbolmeimmaaDoor.P
