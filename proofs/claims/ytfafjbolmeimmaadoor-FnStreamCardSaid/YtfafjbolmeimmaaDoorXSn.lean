/- The draws' numbers: (*l01Src).n, walked by hand; and what is asked of them. -/
import Derived.Test.YtfafjbolmeimmaaDoorF1
namespace Go.Proofs.YtfafjbolmeimmaaDoor.P
open Go.RowKit Go.Proofs.YtfafjbolmeimmaaDoorW.PrintWords Go.Proofs.YtfafjbolmeimmaaDoorW.PrintLast Go.Proofs.YtfafjbolmeimmaaDoorW.PrintMore
set_option linter.unusedVariables false
set_option linter.unusedSimpArgs false
def mixN (m : Int) : Int :=
 let a := Go.bits .xor .u64 m (IntKind.u64.wrap (m * 8192))
 let b := Go.bits .xor .u64 a (a / 128)
 Go.bits .xor .u64 b (IntKind.u64.wrap (b * 131072))
def drawN (v m a1 : Int) : Int := wrap64 (Int.tmod (IntKind.u64.wrap (v + m / 1048576)) (IntKind.u64.wrap a1))
def zaj.f (s0_0 : List Int) (s0_1 s0_2 s0_3 a1 : Int) : Option (Int × Int × Int × Int) :=
 if a1 ≤ 1 then some (0, s0_1, s0_2, s0_3)
 else if IntKind.u64.wrap a1 = 0 then none
 else if s0_1 < (s0_0.length : Int) then (if 0 ≤ s0_1 then some (drawN (IntKind.u64.wrap (rd s0_0 s0_1)) (mixN s0_2) a1, wrap64 (s0_1 + 1), mixN s0_2, s0_3) else none)
 else some (drawN 0 (mixN s0_2) a1, s0_1, mixN s0_2, s0_3)
set_option maxHeartbeats 4000000 in
set_option maxRecDepth 100000 in
theorem zaj.calls (g : Nat) (s0_0 : List Int) (s0_1 s0_2 s0_3 a1 : Int) (r1 r2 r3 r4 : Int) (w0 w : World) (hI : zaf w0 w g s0_0 s0_1 s0_2 s0_3) (hB : Below w0.heap.size w0 w) (h : zaj.f s0_0 s0_1 s0_2 s0_3 a1 = some (r1, r2, r3, r4)) :
  Calls Tryd.prog 19 #[.pointer (some ⟨g, 0, none⟩), .int .i64 a1] w fun e w' => e = .returned (.int .i64 r1) ∧ zaf w0 w' g s0_0 r2 r3 r4 ∧ Below w0.heap.size w0 w' ∧ KeepBut w w' g none := by
 have HI0 := zab.mk hI; have HB := zab.mk hB
 have HK := zab.mk (KeepBut.refl w g none)
 have H := zab.mk h; clear hI hB h
 go_enter Tryd.func19, Tryd.ntmps19
 by_cases c1 : a1 ≤ 1
 ·have c1b : decide (a1 ≤ 1) = true := decide_eq_true c1
  have H1 := H.out
  unfold zaj.f at H1
  rw [if_pos c1] at H1
  simp only [Option.some.injEq, Prod.mk.injEq] at H1
  obtain ⟨rfl, rfl, rfl, rfl⟩ := H1
  clear c1 H
  go_wp2
  go_ret
  exact ⟨rfl, HI0.out, HB.out, HK.out⟩
 have c1b : decide (a1 ≤ 1) = false := decide_eq_false c1
 have H1 := H.out
 unfold zaj.f at H1
 rw [if_neg c1] at H1
 clear H
 have c0 : ¬ IntKind.u64.wrap a1 = 0 := fun e => by rw [if_pos e] at H1; exact absurd H1 (by simp)
 rw [if_neg c0] at H1
 have H2 := zab.mk H1; have C0 := zab.mk c0; clear H1 c1 c0
 obtain ⟨A0, c0, BK, hge, hC⟩ := HI0.out
 have hcz0 := cellS65_0 (zak BK)
 have hcz1 := cellS65_1 (zak BK)
 have hcy0 := cellS65_0 (zak (zak BK))
 have hcy1 := cellS65_1 (zak (zak BK))
 have hfz1 := zam (zak (zak BK)) 1
 go_upto_region 4 with (fail)
 go_region
 go_upto_if 17 with (fail)
 go_cut [5] (fun v5 wc => ∃ (v x1 : Int), v5 = .int .u64 v ∧ zab (zaf w0 wc g s0_0 x1 s0_2 s0_3) ∧ zab (Below w0.heap.size w0 wc) ∧ zab (KeepBut w wc g none) ∧ zab (drawN v (mixN s0_2) a1 = r1 ∧ x1 = r2 ∧ mixN s0_2 = r3 ∧ s0_3 = r4))
 case first =>
  by_cases c2 : s0_1 < (s0_0.length : Int)
  ·have c2b : decide (s0_1 < (s0_0.length : Int)) = true := decide_eq_true c2
   have h3 := H2.out
   rw [if_pos c2] at h3
   by_cases c3 : 0 ≤ s0_1
   ·rw [if_pos c3] at h3
    simp only [Option.some.injEq, Prod.mk.injEq] at h3
    have H3 := zab.mk h3; clear h3 H2
    have p1 : decide (0 ≤ s0_1) = true := decide_eq_true c3
    have p2 : (0 ≤ s0_1) = True := eq_true c3
    have q2 : (s0_1 < (s0_0.length : Int)) = True := eq_true c2
    have pp := c3
    have qq := c2
    obtain ⟨ad, e1, hx⟩ := Kd.at_int hC s0_1 c3 c2
    subst e1
    have hxw := pw_cell_below HB.out hx
    have hxd : (w.drew.drew).cell? (ad.add s0_1.toNat) = some (.int .u8 (rd s0_0 s0_1)) := hxw
    rw [c2b]
    go_wp2
    go_region
    go_wp2
    go_meet
    case rel => exact ⟨_, _, rfl, ⟨by repeat (first | (with_reducible first | exact HI0.out | apply zaf.drew | apply zaf.zaX) | exact HI0.out)⟩, ⟨by repeat (first | (with_reducible first | exact HB.out | apply zac | refine zae ?_ hge) | exact HB.out)⟩, ⟨by repeat (first | (with_reducible first | exact HK.out | apply KeepBut.set_ | apply zao | apply zaq | apply keep_alloc) | exact HK.out)⟩, H3⟩
   rw [if_neg c3] at h3
   exact absurd h3 (by simp)
  have c2b : decide (s0_1 < (s0_0.length : Int)) = false := decide_eq_false c2
  have h3 := H2.out
  rw [if_neg c2] at h3
  simp only [Option.some.injEq, Prod.mk.injEq] at h3
  have H3 := zab.mk h3; clear h3 H2 c2
  rw [c2b]
  go_wp2
  go_meet
  case rel => exact ⟨0, s0_1, rfl, ⟨HI0.out.drew⟩, ⟨zac HB.out⟩, ⟨by repeat (first | (with_reducible first | exact HK.out | apply KeepBut.set_ | apply zao | apply zaq | apply keep_alloc) | exact HK.out)⟩, H3⟩
 case rest =>
  clear BK hge hC hcz0 hcz1 hcy0 hcy1 hfz1 H2 HI0 HB HK
  obtain ⟨v, x1, rfl, HI1, HB, HK, HR⟩ := hcut
  obtain ⟨A1, c1, BK, hge, hC⟩ := HI1.out
  obtain ⟨rfl, rfl, rfl, rfl⟩ := HR.out
  clear HR hC
  have hcz2 := cellS65_2 (zak BK)
  have hfz2 := zam (zak BK) 2
  have HB1 := HB
  have HK1 := HK
  clear HB HK
  go_wp2
  go_region
  obtain ⟨y1, hy1⟩ : ∃ y, Go.bits .xor .u64 s0_2 (IntKind.u64.wrap (s0_2 * 8192)) = y := ⟨_, rfl⟩
  rw [hy1]
  have HI2 := zab.mk (zaf.drew (zaf.zaW HI1.out y1))
  have HB2 := zab.mk (zac (zae (g := g) (j := 2) (v := .int .u64 y1) HB1.out hge))
  have HK2 := zab.mk (zaq (KeepBut.set_ HK1.out 2 (.int .u64 y1)))
  clear BK hcz2 hfz2 HB1 HK1 HI1
  generalize (wc.setCell ⟨g, 2, none⟩ (.int .u64 y1)).drew = w2 at *
  obtain ⟨A2, c2, BK, -, -⟩ := HI2.out
  have hcz2 := cellS65_2 (zak BK)
  have hfz2 := zam (zak BK) 2
  go_wp2
  go_region
  obtain ⟨y2, hy2⟩ : ∃ y, Go.bits .xor .u64 y1 (y1 / 128) = y := ⟨_, rfl⟩
  rw [hy2]
  have HI3 := zab.mk (zaf.drew (zaf.zaW HI2.out y2))
  have HB3 := zab.mk (zac (zae (g := g) (j := 2) (v := .int .u64 y2) HB2.out hge))
  have HK3 := zab.mk (zaq (KeepBut.set_ HK2.out 2 (.int .u64 y2)))
  clear BK hcz2 hfz2 HB2 HK2 HI2
  generalize (w2.setCell ⟨g, 2, none⟩ (.int .u64 y2)).drew = w3 at *
  obtain ⟨A3, c3, BK, -, -⟩ := HI3.out
  have hcz2 := cellS65_2 (zak BK)
  have hfz2 := zam (zak BK) 2
  go_wp2
  go_region
  obtain ⟨y3, hy3⟩ : ∃ y, Go.bits .xor .u64 y2 (IntKind.u64.wrap (y2 * 131072)) = y := ⟨_, rfl⟩
  rw [hy3]
  have HI4 := zab.mk (zaf.drew (zaf.zaW HI3.out y3))
  have HB4 := zab.mk (zac (zae (g := g) (j := 2) (v := .int .u64 y3) HB3.out hge))
  have HK4 := zab.mk (zaq (KeepBut.set_ HK3.out 2 (.int .u64 y3)))
  clear BK hcz2 hfz2 HB3 HK3 HI3
  generalize (w3.setCell ⟨g, 2, none⟩ (.int .u64 y3)).drew = w4 at *
  obtain ⟨A4, c4, BK, -, -⟩ := HI4.out
  have hcz2 := cellS65_2 (zak BK)
  have hfz2 := zam (zak BK) 2
  have hy : mixN s0_2 = y3 := by unfold mixN; simp only [hy1, hy2, hy3]
  have hczz := cellS65_2 BK
  go_wp2
  ·rename_i hz
   exact absurd hz C0.out
  go_ret
  exact ⟨by rw [hy]; rfl, hy ▸ HI4.out, HB4.out, HK4.out⟩
end Go.Proofs.YtfafjbolmeimmaaDoor.P
