/- The law on bounds: GateBounds. -/
import Derived.Test.YtcidfldeiklcjaaGreatDoorLgp
import Derived.Test.YtcidfldeiklcjaaGreatDoorPos
namespace Go.Proofs.YtcidfldeiklcjaaGreatDoor
open Go.RowKit Tm Bf

def rl (f : Nat → Int) (n : Nat) : List Int := (List.range n).map f
theorem rl_len (f : Nat → Int) (n : Nat) : (rl f n).length = n := by simp [rl]
theorem rl_succ (f : Nat → Int) (n : Nat) : rl f (n + 1) = rl f n ++ [f n] := by unfold rl; rw [List.range_succ, List.map_append]; rfl
theorem rl_get (f : Nat → Int) {n i : Nat} (h : i < n) : (rl f n).getD i 0 = f i := by
  unfold rl
  rw [List.getD_eq_getElem?_getD, List.getElem?_map, List.getElem?_range h]
  rfl
/-- two lists of numbers under way -/
structure TwoL (w wr : World) (f g : Nat → Int) (n k : Nat) (vl vh : Value) : Prop where
  ol : wr.ownsRow w.heap.size 3 1 vl n (ints (rl f n))
  oh : wr.ownsRow w.heap.size 3 1 vh k (ints (rl g k))
  dj : ∀ z ∈ obl vl, z ∉ obl vh
  kb : Kept [] w wr
section
variable {w wr wA : World} {f g : Nat → Int} {n k : Nat} {vl vh v' : Value} {ob : Obj}
theorem TwoL.low (h : TwoL w wr f g n k vl vh) (own : wA.ownsRow w.heap.size 3 1 v' (n + 1) (ints (rl f n ++ [f n]))) (kk : Kept (obl vl) (wr.alloc ob) wA) (t : ∀ z ∈ obl v', z ∈ obl vl ∨ z = (wr.alloc ob).heap.size) : TwoL w wA f g (n + 1) k v' vh :=
  ⟨by rw [rl_succ]; exact own, own_keep (own_keep h.oh ((Kept.refl [] wr).alloc ob) (by simp)) kk (fun z hz hm => h.dj z hm hz), fun z hz hm => by
    rcases t z hz with e | e
    · exact h.dj z e hm
    · have := (own_ge h.oh z hm).2
      rw [World.size_alloc] at e
      omega, (h.kb.alloc ob).fresh kk (fun z hz => (own_ge h.ol z hz).1)⟩
theorem TwoL.high (h : TwoL w wr f g n k vl vh) (own : wA.ownsRow w.heap.size 3 1 v' (k + 1) (ints (rl g k ++ [g k]))) (kk : Kept (obl vh) (wr.alloc ob) wA) (t : ∀ z ∈ obl v', z ∈ obl vh ∨ z = (wr.alloc ob).heap.size) : TwoL w wA f g n (k + 1) vl v' :=
  ⟨own_keep (own_keep h.ol ((Kept.refl [] wr).alloc ob) (by simp)) kk (fun z hz hm => h.dj z hz hm), by rw [rl_succ]; exact own, fun z hz hm => by
    rcases t z hm with e | e
    · exact h.dj z hz e
    · have := (own_ge h.ol z hz).2
      rw [World.size_alloc] at e
      omega, (h.kb.alloc ob).fresh kk (fun z hz => (own_ge h.oh z hz).1)⟩
end
theorem pos_len {o : List Ent} {dr : Int} {f : Nat → Int} (h : PossAll o dr fun i => (rl f o.length).getD i 0) : PosP o dr (rl f o.length) := ⟨rl_len _ _, h⟩

set_option maxRecDepth 100000 in
set_option maxHeartbeats 8000000 in
theorem law08b_any (vs vk va vc : Value) (s : Stp) (xs : List Int) (l : List Ent) (dr : Int) (cyc : List Int) (w : World) (hs : StpV w vs s) (hk : Row w 1 vk xs.length (ints xs)) (ha : EntsV w va l) (hc : Row w 1 vc cyc.length (ints cyc)) (hJ : ∀ e ∈ l, EntJ e) (hxi : ∀ x ∈ xs, Wire.I64 x) (hci : ∀ x ∈ cyc, Wire.I64 x) (hE : Env2 w) :
    Calls Tryz.prog 4 #[vs, vk, va, .int .i64 dr, vc] w fun e w' => e = .returned (.bool true) ∧ Kept [] w w' := by
  have hs' := hs
  obtain ⟨⟨ad, cc, rfl, hrow⟩, _, _, _, _, _⟩ := hs'
  obtain ⟨aa, ca, rfl, _, _⟩ := RowOf.form ha
  obtain ⟨ka, kc, rfl, hkl, _⟩ := hk.form
  obtain ⟨ya, yc, rfl, hcl, _⟩ := hc.form
  obtain ⟨W, hW⟩ : ∃ W, w.alloc (.cells #[.int .i64 s.P, .int .i64 s.Q, .int .i64 s.G, .slice ad s.bases.length cc, .int .i64 s.blind] 26) = W := ⟨_, rfl⟩
  have hb : Blk W w.heap.size 26 #[.int .i64 s.P, .int .i64 s.Q, .int .i64 s.G, .slice ad s.bases.length cc, .int .i64 s.blind] := hW ▸ Blk.new _ _ _
  have hkW : Kept [] w W := hW ▸ (Kept.refl _ _).alloc _
  have SN := Lib.hid (saneTimes_any W (hE.kept0 hkW))
  have HBS := Lib.hid hb
  have HSV : Hid (∀ w', Kept [] W w' → StpV w' (.agg #[.int .i64 s.P, .int .i64 s.Q, .int .i64 s.G, .slice ad s.bases.length cc, .int .i64 s.blind]) s) := fun w' kk => hs.kept (hkW.trans kk)
  have HKV : Hid (∀ w', Kept [] W w' → Row w' 1 (.slice ka xs.length kc) xs.length (ints xs)) := fun w' kk => hk.kept (hkW.trans kk)
  have HAV : Hid (∀ w', Kept [] W w' → EntsV w' (.slice aa l.length ca) l) := fun w' kk => ha.kept (hkW.trans kk)
  have HCV : Hid (∀ w', Kept [] W w' → Row w' 1 (.slice ya cyc.length yc) cyc.length (ints cyc)) := fun w' kk => hc.kept (hkW.trans kk)
  have HEV : Hid (∀ w', Kept [] W w' → Env2 w') := fun w' kk => hE.kept0 (hkW.trans kk)
  have HJ := Lib.hid hJ
  have HXI := Lib.hid hxi
  have HCI := Lib.hid hci
  have HW := Lib.hid hW
  have HKW := Lib.hid hkW
  have FT : Hid (∀ w', Kept [] W w' → Calls Tryz.prog 7 #[.agg #[.int .i64 s.P, .int .i64 s.Q, .int .i64 s.G, .slice ad s.bases.length cc, .int .i64 s.blind], .slice ka xs.length kc, .slice aa l.length ca, .slice ya cyc.length yc] w' fun e w2 => e = .returned (.bool (fewT s xs l cyc)) ∧ Kept [] w' w2) := fun w' kk =>
    fewTimes_any _ s xs l cyc ka aa ya kc ca yc w' (hs.kept (hkW.trans kk)) hkl hcl (ha.kept (hkW.trans kk)) (fun e he => ⟨(hJ e he).l4, (hJ e he).l5⟩)
  clear hb hkW hW hs hk ha hc hJ hxi hci hE hrow
  show Calls _ _ #[.agg #[.int .i64 s.P, .int .i64 s.Q, .int .i64 s.G, .slice ad s.bases.length cc, .int .i64 s.blind], _, _, _, _] _ _
  go_enter Tryz.func4, Tryz.ntmps4
  go_upto_region 1 with (fail)
  have hW' : w.alloc (.cells #[.int .i64 s.P, .int .i64 s.Q, .int .i64 s.G, .slice ad s.bases.length cc, .int .i64 s.blind] 26) = W := HW.out
  rw [hW']
  clear hW'
  go_wp2_with (go_at_call 6; with_reducible refine SN.out.mono ?_)
  first | (rintro e w1 rfl k1) | (rintro e w1 ⟨rfl, k1⟩)
  have K1 : Hid (Kept [] W w1) := k1
  clear SN k1
  have s0 : w1.cell? ⟨w.heap.size, 0, none⟩ = some (.int .i64 s.P) := Kept.cellOf (HBS.out.cell 0) _ K1.out
  have s1 : w1.cell? ⟨w.heap.size, 1, none⟩ = some (.int .i64 s.Q) := Kept.cellOf (HBS.out.cell 1) _ K1.out
  have s2 : w1.cell? ⟨w.heap.size, 2, none⟩ = some (.int .i64 s.G) := Kept.cellOf (HBS.out.cell 2) _ K1.out
  have s3 : w1.cell? ⟨w.heap.size, 3, none⟩ = some (.slice ad s.bases.length cc) := Kept.cellOf (HBS.out.cell 3) _ K1.out
  have s4 : w1.cell? ⟨w.heap.size, 4, none⟩ = some (.int .i64 s.blind) := Kept.cellOf (HBS.out.cell 4) _ K1.out
  have FT1 := Lib.hid (FT.out w1 K1.out)
  obtain ⟨fb, hfb⟩ : ∃ b, fewT s xs l cyc = b := ⟨_, rfl⟩
  rw [hfb] at FT1
  clear FT
  go_wp2_with (go_at_call 7; with_reducible refine FT1.out.mono ?_)
  first | (rintro e w2 rfl k2) | (rintro e w2 ⟨rfl, k2⟩)
  have K2 := Lib.hid (K1.out.trans k2)
  clear s0 s1 s2 s3 s4
  clear FT1 k2
  have KE2 := Lib.hid (HKW.out.trans K2.out)
  cases fb
  · go_wp2_with fail
    go_ret
    exact ⟨rfl, KE2.out⟩
  by_cases hd0 : dr < 0
  · have d0 : decide (dr < 0) = true := decide_eq_true hd0
    go_wp2_with fail
    go_ret
    exact ⟨rfl, KE2.out⟩
  by_cases hd1 : 1000 < dr
  · have d0 : decide (dr < 0) = false := decide_eq_false hd0
    have d1 : decide (1000 < dr) = true := decide_eq_true hd1
    go_wp2_with fail
    go_ret
    exact ⟨rfl, KE2.out⟩
  have d0 : decide (dr < 0) = false := decide_eq_false hd0
  have d1 : decide (1000 < dr) = false := decide_eq_false hd1
  unfold fewT at hfb
  simp only [Bool.and_eq_true, decide_eq_true_eq] at hfb
  obtain ⟨_, hfl, hx24, hc12⟩ := hfb
  obtain ⟨hl9, hI⟩ := fewL_all HJ.out hfl
  have HI := Lib.hid hI
  have PB := Lib.hid (publics_any _ _ s xs w2 (HSV.out _ K2.out) (HKV.out _ K2.out) HXI.out (by omega) (HEV.out _ K2.out))
  clear hfl hI
  have s0 : w2.cell? ⟨w.heap.size, 0, none⟩ = some (.int .i64 s.P) := Kept.cellOf (HBS.out.cell 0) _ K2.out
  have s1 : w2.cell? ⟨w.heap.size, 1, none⟩ = some (.int .i64 s.Q) := Kept.cellOf (HBS.out.cell 1) _ K2.out
  have s2 : w2.cell? ⟨w.heap.size, 2, none⟩ = some (.int .i64 s.G) := Kept.cellOf (HBS.out.cell 2) _ K2.out
  have s3 : w2.cell? ⟨w.heap.size, 3, none⟩ = some (.slice ad s.bases.length cc) := Kept.cellOf (HBS.out.cell 3) _ K2.out
  have s4 : w2.cell? ⟨w.heap.size, 4, none⟩ = some (.int .i64 s.blind) := Kept.cellOf (HBS.out.cell 4) _ K2.out
  go_wp2_with (go_at_call 8; with_reducible refine PB.out.mono ?_)
  rintro e w3 ⟨pa, pc, rfl, hpr, k3⟩
  have K3 := Lib.hid (K2.out.trans k3)
  have hLl : (sealL s xs l).length = l.length := by simp [sealL]
  have SL : Hid (∀ w', Kept [] w3 w' → Calls Tryz.prog 9 #[.agg #[.int .i64 s.P, .int .i64 s.Q, .int .i64 s.G, .slice ad s.bases.length cc, .int .i64 s.blind], .slice ka xs.length kc, .slice aa l.length ca] w' (SlE (sealL s xs l) w')) := fun w' kk =>
    sealed_any8 _ _ _ s xs l w' (HSV.out _ (K3.out.trans kk)) (HKV.out _ (K3.out.trans kk)) (HAV.out _ (K3.out.trans kk)) (by omega) HI.out HXI.out (HEV.out _ (K3.out.trans kk))
  obtain ⟨L, hL⟩ : ∃ L, sealL s xs l = L := ⟨_, rfl⟩
  have hLI : ∀ e ∈ L, EntI e := by rw [← hL]; exact sealL_i HI.out
  obtain ⟨P, hP⟩ : ∃ P, pubL s xs = P := ⟨_, rfl⟩
  have hPI : ∀ x ∈ P, Wire.I64 x := by rw [← hP]; exact pubL_i
  rw [hL] at SL hLl
  rw [hP] at hpr ⊢
  have HPR := Lib.hid hpr
  have hL12 : L.length ≤ 12 := by omega
  have JN : Hid (∀ w' v, Kept [] w3 w' → EntsV w' v L → Calls Tryz.prog 17 #[.agg #[.int .i64 s.P, .int .i64 s.Q, .int .i64 s.G, .slice ad s.bases.length cc, .int .i64 s.blind], .slice pa P.length pc, v, .slice none 0 0] w' (JoinE s P L w')) := fun w' v kk hv =>
    join_any _ _ _ s P L w' (HSV.out _ (K3.out.trans kk)) (hpr.kept kk) hv hL12 hLI hPI (HEV.out _ (K3.out.trans kk))
  have HLI := Lib.hid hLI
  have HPI := Lib.hid hPI
  clear s0 s1 s2 s3 s4
  clear PB hpr k3 hL hP hLI hPI hLl
  have s0 : ∀ w', Kept [] w3 w' → w'.cell? ⟨w.heap.size, 0, none⟩ = some (.int .i64 s.P) := fun w' kk => Kept.cellOf (HBS.out.cell 0) _ (K3.out.trans kk)
  have s1 : ∀ w', Kept [] w3 w' → w'.cell? ⟨w.heap.size, 1, none⟩ = some (.int .i64 s.Q) := fun w' kk => Kept.cellOf (HBS.out.cell 1) _ (K3.out.trans kk)
  have s2 : ∀ w', Kept [] w3 w' → w'.cell? ⟨w.heap.size, 2, none⟩ = some (.int .i64 s.G) := fun w' kk => Kept.cellOf (HBS.out.cell 2) _ (K3.out.trans kk)
  have s3 : ∀ w', Kept [] w3 w' → w'.cell? ⟨w.heap.size, 3, none⟩ = some (.slice ad s.bases.length cc) := fun w' kk => Kept.cellOf (HBS.out.cell 3) _ (K3.out.trans kk)
  have s4 : ∀ w', Kept [] w3 w' → w'.cell? ⟨w.heap.size, 4, none⟩ = some (.int .i64 s.blind) := fun w' kk => Kept.cellOf (HBS.out.cell 4) _ (K3.out.trans kk)
  go_upto_region 5 with (fail)
  go_region_held3 (fun w' => Kept [] w3 w') (repeat (first | (with_reducible assumption) | (with_reducible exact Kept.refl _ _) | (with_reducible refine Kept.drew ?_) | (with_reducible refine Kept.trans ?_ kB) | (with_reducible refine Kept.trans ?_ kA)))
    (first
      | (go_at_call 9; refine (SL.out _ (by (repeat (first | (with_reducible assumption) | (with_reducible exact Kept.refl _ _) | (with_reducible refine Kept.drew ?_) | (with_reducible refine Kept.trans ?_ kB) | (with_reducible refine Kept.trans ?_ kA))))).mono ?_; rintro e wA ⟨vx, rfl, hxr, kA⟩; obtain ⟨xa, xc, rfl, _, _⟩ := RowOf.form hxr)
      | (go_at_call 17; refine (JN.out _ _ (by (repeat (first | (with_reducible assumption) | (with_reducible exact Kept.refl _ _) | (with_reducible refine Kept.drew ?_) | (with_reducible refine Kept.trans ?_ kB) | (with_reducible refine Kept.trans ?_ kA)))) hxr).mono ?_; rintro e w4 ⟨vj, o, rfl, heo, hjo, hlo, kB⟩; obtain ⟨ja, jc, rfl, _, _⟩ := RowOf.form heo)
      | fail)
  rename_i hHeld
  have HEO := Lib.hid heo
  have HJO := Lib.hid hjo
  have K34 : Hid (Kept [] w3 w4) := hHeld
  have K4 := Lib.hid (K3.out.trans K34.out)
  have hOI : ∀ e ∈ o, EntI e := fun e he => HLI.out e ((hjo.2 e).1 he).1
  have HOI := Lib.hid hOI
  have BD := Lib.hid (bounds_any _ _ _ s P o dr w4 (HSV.out _ K4.out) (HPR.out.kept K34.out) heo hlo hOI HPI.out (HEV.out _ K4.out))
  clear heo hjo hHeld hOI hxr kA kB s0 s1 s2 s3 s4 SL JN
  have s0 : w4.cell? ⟨w.heap.size, 0, none⟩ = some (.int .i64 s.P) := Kept.cellOf (HBS.out.cell 0) _ K4.out
  have s1 : w4.cell? ⟨w.heap.size, 1, none⟩ = some (.int .i64 s.Q) := Kept.cellOf (HBS.out.cell 1) _ K4.out
  have s2 : w4.cell? ⟨w.heap.size, 2, none⟩ = some (.int .i64 s.G) := Kept.cellOf (HBS.out.cell 2) _ K4.out
  have s3 : w4.cell? ⟨w.heap.size, 3, none⟩ = some (.slice ad s.bases.length cc) := Kept.cellOf (HBS.out.cell 3) _ K4.out
  have s4 : w4.cell? ⟨w.heap.size, 4, none⟩ = some (.int .i64 s.blind) := Kept.cellOf (HBS.out.cell 4) _ K4.out
  go_wp2_with (go_at_call 10; with_reducible refine BD.out.mono ?_)
  rintro e w5 ⟨k5, ⟨hno, rfl⟩ | ⟨hyes, o', hjo', _, hwf, hd0', hd1', hres⟩⟩
  · have KE := Lib.hid (HKW.out.trans (K4.out.trans k5))
    clear s0 s1 s2 s3 s4
    clear k5 hno
    go_wp2_with fail
    go_ret
    exact ⟨rfl, KE.out⟩
  obtain rfl : o' = o := join_self HJO.out hjo'
  have HWF := Lib.hid hwf
  have HDD := Lib.hid (And.intro hd0' hd1')
  have K5 := Lib.hid (K4.out.trans k5)
  have K45 := Lib.hid k5
  have PS := Lib.hid (possible_any _ _ o' dr cyc w5 (HEO.out.kept k5) hwf hd0' hd1' (by omega) (HCV.out _ K5.out))
  have HRS := Lib.hid hres
  clear s0 s1 s2 s3 s4
  clear BD k5 hyes hjo' hwf hd0' hd1' hres
  rcases HRS.out with ⟨v, up, lo, rfl, hu, hlw, hbr⟩ | ⟨rfl, hnf⟩
  rotate_left
  · have HNP : Hid (¬ PosP o' dr cyc) := fun h => poss_unsat HDD.out.1 HDD.out.2 HWF.out hnf _ h.2
    clear hnf HRS
    go_wp2_with (go_at_call 18; with_reducible refine PS.out.mono ?_)
    rintro e w6 ⟨k6, b, rfl, hb⟩
    have KE := Lib.hid (HKW.out.trans (K5.out.trans k6))
    cases b
    · clear k6 hb
      go_wp2_with fail
      go_ret
      exact ⟨rfl, KE.out⟩
    · exact absurd (hb.1 rfl) HNP.out
  have HU := Lib.hid hu
  have HLW := Lib.hid hlw
  have HBR := Lib.hid hbr
  obtain ⟨ba, bc, hvb, _, _⟩ := RowOf.form hbr
  rw [bndL_len] at hvb
  subst hvb
  clear HRS hu hlw hbr
  go_wp2_with (go_at_call 18; with_reducible refine PS.out.mono ?_)
  rintro e w6 ⟨k6, fine, rfl, hfine⟩
  have HFI : Hid (fine = true → cyc.length = o'.length ∧ ∀ i, i < o'.length → -lo i ≤ cyc.getD i 0 ∧ cyc.getD i 0 ≤ up i) := fun h => by
    obtain ⟨h1, h2⟩ := hfine.1 h
    exact ⟨h1, poss_in HDD.out.1 HDD.out.2 HWF.out HU.out HLW.out h2⟩
  have HPL : Hid (PosP o' dr (rl (fun i => -lo i) o'.length)) := pos_len (poss_low HDD.out.1 HDD.out.2 HWF.out HLW.out fun i hi => rl_get _ hi)
  have HPU : Hid (PosP o' dr (rl up o'.length)) := pos_len (poss_up HDD.out.1 HDD.out.2 HWF.out HU.out fun i hi => rl_get _ hi)
  have K6 := Lib.hid (K5.out.trans k6)
  have K46 := Lib.hid (K45.out.trans k6)
  have HBR6 : Hid (RowOf BndR 2 w6 (.slice ba o'.length bc) (bndL lo up o'.length)) := RowOf.kept HBR.out (fun _ _ h => h) k6
  have KE6 := Lib.hid (HKW.out.trans K6.out)
  clear PS k6 hfine HBR
  obtain ⟨n, hn⟩ : ∃ n, o'.length = n := ⟨_, rfl⟩
  have HN := Lib.hid hn
  have HEO6 := Lib.hid (HEO.out.kept K46.out)
  rw [hn] at HFI HPL HPU HBR6 hlo ⊢
  have hnn : ((n : Int) != (n : Int)) = false := by simp
  clear hn HEO
  go_upto_region 16 with (fail)
  obtain ⟨W7, hW7⟩ : ∃ W7, (w6.alloc (.cells #[] 3)).alloc (.cells #[] 3) = W7 := ⟨_, rfl⟩
  have hb0 : Blk W7 w6.heap.size 3 ([] : List Value).toArray := hW7 ▸ (Blk.new _ _ _).alloc _
  have hb1 : Blk W7 (w6.heap.size + 1) 3 ([] : List Value).toArray := by
    have := Blk.new (w6.alloc (.cells #[] 3)) 3 #[]
    rw [hW7, World.size_alloc] at this
    exact this
  have k67 : Kept [] w6 W7 := hW7 ▸ ((Kept.refl _ _).alloc _).alloc _
  have HT0 : Hid (TwoL w6 W7 (fun i => -lo i) up 0 0 (.slice (some ⟨w6.heap.size, 0, none⟩) 0 0) (.slice (some ⟨w6.heap.size + 1, 0, none⟩) 0 0)) :=
    ⟨own_of_blkB (cs := []) hb0 (Nat.le_refl _) (by simp), own_of_blkB (cs := []) hb1 (by omega) (by simp), fun z hz hm => by
      have h1 : some w6.heap.size = some z := obl_mem hz
      have h2 : some (w6.heap.size + 1) = some z := obl_mem hm
      injection h1 with h1
      injection h2 with h2
      omega, k67⟩
  rw [hW7]
  clear hW7 hb0 hb1 k67
  go_wp2_with fail
  go_loopw [17, 18, 19] (fun vl vh vi wr => ∃ (i : Nat) (a : Option Addr) (c : Nat) (a2 : Option Addr) (c2 : Nat), i ≤ n ∧ vi = .int .i64 i ∧ vl = .slice a i c ∧ vh = .slice a2 i c2 ∧ Hid (TwoL w6 wr (fun i => -lo i) up i i (.slice a i c) (.slice a2 i c2))) (fun _ _ vi _ => n - (intOf vi).toNat)
  case atStart => exact ⟨0, _, _, _, _, by omega, rfl, rfl, rfl, HT0⟩
  case round =>
    obtain ⟨i, a, c, a2, c2, hin, rfl, rfl, rfl, HT⟩ := hrel
    by_cases hlt : i < n
    · obtain ⟨bb, bo, rfl, hbc⟩ := HBR6.out.at_ (by rw [bndL_len]; omega)
      obtain ⟨cs, hcs, hcr, hcc⟩ := hbc i (-lo i, up i) (by unfold bndL; rw [List.getElem?_map, List.getElem?_range hlt]; rfl)
      have hcr' : cs = [.int .i64 (-lo i), .int .i64 (up i)] := hcr
      subst hcr'
      have q0 := hcc 0 (.int .i64 (-lo i)) (by omega) rfl
      have q1 := hcc 1 (.int .i64 (up i)) (by omega) rfl
      rw [Nat.add_zero] at q0
      rw [← Nat.add_assoc] at q1
      have HQ0 := Lib.hid q0
      have HQ1 := Lib.hid q1
      have HFX : Hid (fine = true → i < cyc.length ∧ -lo i ≤ cyc.getD i 0 ∧ cyc.getD i 0 ≤ up i) := fun h => by
        obtain ⟨h1, h2⟩ := HFI.out h
        exact ⟨by omega, h2 i hlt⟩
      obtain ⟨x, hx⟩ : ∃ x, -lo i = x := ⟨_, rfl⟩
      obtain ⟨y, hy⟩ : ∃ y, up i = y := ⟨_, rfl⟩
      rw [hx] at HQ0 HFX
      rw [hy] at HQ1 HFX
      have HX := Lib.hid hx
      have HY := Lib.hid hy
      have p0 := Kept.cellOf HQ0.out _ HT.out.kb
      clear hbc hcc hcr hcs q0 q1 hx hy
      go_wp2_with (at_builtin; refine wpList_append_ints rfl _ _ rfl w6.heap.size (.slice a i c) i (rl (fun i => -lo i) i) rfl (own_keep HT.out.ol ((Kept.refl [] _).alloc _) (by simp)) _ 1 [x] rfl (Row.one1 _ _) (by omega) (by simp only [World.size_alloc]; have := HT.out.kb.size; omega) ?_)
      intro a' c' wA own1 kA tA
      have ht1 := HT.out.low (by rw [HX.out]; exact own1) kA (fun z hz => by rw [World.size_alloc]; exact tA z hz)
      have HT1 := Lib.hid ht1
      have p1 := Kept.cellOf HQ1.out _ ht1.kb
      clear own1 kA tA p0 ht1
      go_wp2_with (at_builtin; refine wpList_append_ints rfl _ _ rfl w6.heap.size (.slice a2 i c2) i (rl up i) rfl (own_keep HT1.out.oh ((Kept.refl [] _).alloc _) (by simp)) _ 1 [y] rfl (Row.one1 _ _) (by omega) (by simp only [World.size_alloc]; have := HT1.out.kb.size; omega) ?_)
      intro a2' c2' wB own2 kB tB
      have ht2 := HT1.out.high (by rw [HY.out]; exact own2) kB (fun z hz => by rw [World.size_alloc]; exact tB z hz)
      have HT2 := Lib.hid ht2
      have KB6 := Lib.hid ht2.kb
      have p0 := Kept.cellOf HQ0.out _ ht2.kb
      have p1 := Kept.cellOf HQ1.out _ ht2.kb
      clear own2 kB tB ht2 HT1
      cases fine
      · go_wp2_with fail
        go_quiet (fail)
        go_wp2_with fail
        go_roundw
        case rel => exact ⟨i + 1, a', c', a2', c2', by omega, by go_num, rfl, rfl, ⟨HT2.out.ol, HT2.out.oh, HT2.out.dj, HT2.out.kb.drewN _⟩⟩
        case measure => simp [intOf]; omega
      · obtain ⟨hic, hge, hle⟩ := HFX.out rfl
        obtain ⟨yb, yo, rfl, hyc⟩ := (HCV.out w6 K6.out).at_ (by omega)
        have c0 := Kept.cellOf (hyc i _ (ints_get hic)) _ KB6.out
        have gy : cyc.getD i 0 = cyc[i] := by rw [List.getD_eq_getElem?_getD, List.getElem?_eq_getElem hic]; rfl
        rw [gy] at hge hle
        obtain ⟨t, ht⟩ : ∃ t, cyc[i] = t := ⟨_, rfl⟩
        rw [ht] at c0 hge hle
        have e0 : decide (t < x) = false := decide_eq_false (by omega)
        have e1 : decide (y < t) = false := decide_eq_false (by omega)
        have hcl' : (i : Int) < (cyc.length : Int) := by omega
        clear hyc gy ht hge hle
        go_wp2_with fail
        go_quiet (fail)
        go_wp2_with fail
        go_roundw
        case rel => exact ⟨i + 1, a', c', a2', c2', by omega, by go_num, rfl, rfl, ⟨HT2.out.ol, HT2.out.oh, HT2.out.dj, HT2.out.kb.drewN _⟩⟩
        case measure => simp [intOf]; omega
    · obtain rfl : i = n := by omega
      have hk6 := HT.out.kb
      have hrl : Row wr 1 (.slice a i c) (rl (fun i => -lo i) i).length (ints (rl (fun i => -lo i) i)) := by rw [rl_len]; exact Row.of_own HT.out.ol (by omega)
      have hrh : Row wr 1 (.slice a2 i c2) (rl up i).length (ints (rl up i)) := by rw [rl_len]; exact Row.of_own HT.out.oh (by omega)
      have P1 : Hid (Calls Tryz.prog 18 #[.slice ja i jc, .int .i64 dr, .slice a i c] wr fun e w' => e = .returned (.bool true) ∧ Kept [] wr w') := by
        have h := possible_any _ _ o' dr (rl (fun i => -lo i) i) wr (HEO6.out.kept hk6) HWF.out HDD.out.1 HDD.out.2 (by rw [HN.out]; omega) hrl
        rw [HN.out] at h
        exact h.mono fun _ _ ⟨h1, b, h2, h3⟩ => ⟨by rw [h2, h3.2 HPL.out], h1⟩
      have P2 : Hid (∀ w', Kept [] wr w' → Calls Tryz.prog 18 #[.slice ja i jc, .int .i64 dr, .slice a2 i c2] w' fun e w2 => e = .returned (.bool true) ∧ Kept [] w' w2) := fun w' kk => by
        have h := possible_any _ _ o' dr (rl up i) w' (HEO6.out.kept (hk6.trans kk)) HWF.out HDD.out.1 HDD.out.2 (by rw [HN.out]; omega) (hrh.kept kk)
        rw [HN.out] at h
        exact h.mono fun _ _ ⟨h1, b, h2, h3⟩ => ⟨by rw [h2, h3.2 HPU.out], h1⟩
      have KR := Lib.hid (KE6.out.trans hk6)
      clear hk6 hrl hrh HT
      go_wp2_with (go_at_call 18; with_reducible refine P1.out.mono ?_)
      first | (rintro e w8 rfl k8) | (rintro e w8 ⟨rfl, k8⟩)
      have P3 := Lib.hid (P2.out w8 k8)
      have K8 := Lib.hid (KR.out.trans k8)
      clear P1 P2 k8
      go_wp2_with (go_at_call 18; with_reducible refine P3.out.mono ?_)
      first | (rintro e w9 rfl k9) | (rintro e w9 ⟨rfl, k9⟩)
      have KE9 := Lib.hid (K8.out.trans k9)
      clear P3 k9
      go_wp2_with fail
      go_ret
      exact ⟨rfl, KE9.out⟩
end Go.Proofs.YtcidfldeiklcjaaGreatDoor
