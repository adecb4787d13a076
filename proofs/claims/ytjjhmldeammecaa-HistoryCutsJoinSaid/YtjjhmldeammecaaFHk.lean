/- Plain functions (printed by a program of this repo out of the loaded Go functions). -/
import Derived.Test.YtjjhmldeammecaaFHc
-- base: Hc
namespace Go.Abs
open Go
set_option maxRecDepth 8000
structure T_api_Published where
  Advisory : Str
  Day : Int
  Ended : Int
def T_api_Published.c (x : T_api_Published) : List PV := [vs x.Advisory.b, vi x.Day, vi x.Ended]
theorem T_api_Published.w : Wide 3 T_api_Published.c := ⟨fun _ => rfl, fun _ => rfl, fun x => by simp only [T_api_Published.c, nzPs, nzP]⟩
theorem T_api_Published.r (l : List T_api_Published) : (∀ r ∈ l.map T_api_Published.c, r.length = 3 ∧ r.all PV.single = true) = True := T_api_Published.w.rows l
theorem T_api_Published.r1 (l : List T_api_Published) : (∀ r ∈ l.map T_api_Published.c, r.length = 3) = True := T_api_Published.w.rowl l
theorem T_api_Published.n (l : List T_api_Published) : nzPss (l.map T_api_Published.c) = l.map T_api_Published.c := T_api_Published.w.nzs l
attribute [go_sem] T_api_Published.c T_api_Published.r T_api_Published.r1 T_api_Published.n
structure T_api_Story where
  Product : Str
  Releases : List T_api_Release
  Known : List T_api_Published
  Until : Int
def T_api_Story.c (x : T_api_Story) : List PV := [vs x.Product.b, .sl (x.Releases.map T_api_Release.c), .sl (x.Known.map T_api_Published.c), vi x.Until]
theorem T_api_Story.w : Wide 4 T_api_Story.c := ⟨fun _ => rfl, fun _ => rfl, fun x => by simp only [T_api_Story.c, nzPs, nzP, T_api_Published.w.nzs, T_api_Release.w.nzs]⟩
theorem T_api_Story.r (l : List T_api_Story) : (∀ r ∈ l.map T_api_Story.c, r.length = 4 ∧ r.all PV.single = true) = True := T_api_Story.w.rows l
theorem T_api_Story.r1 (l : List T_api_Story) : (∀ r ∈ l.map T_api_Story.c, r.length = 4) = True := T_api_Story.w.rowl l
theorem T_api_Story.n (l : List T_api_Story) : nzPss (l.map T_api_Story.c) = l.map T_api_Story.c := T_api_Story.w.nzs l
attribute [go_sem] T_api_Story.c T_api_Story.r T_api_Story.r1 T_api_Story.n
structure T_provenderref11_view where
  s : T_api_Story
  known : List (Str × T_api_Published)
def T_provenderref11_view.c (x : T_provenderref11_view) : List PV := [vs x.s.Product.b, .sl (x.s.Releases.map T_api_Release.c), .sl (x.s.Known.map T_api_Published.c), vi x.s.Until, .mp (x.known.map (cM kS (pA T_api_Published.c)))]
theorem T_provenderref11_view.w : Wide 5 T_provenderref11_view.c := ⟨fun _ => rfl, fun _ => rfl, fun x => by simp only [T_provenderref11_view.c, nzPs, nzP, T_api_Published.w.nzs, T_api_Release.w.nzs, nzM nkS (npA T_api_Published.w)]⟩
theorem T_provenderref11_view.r (l : List T_provenderref11_view) : (∀ r ∈ l.map T_provenderref11_view.c, r.length = 5 ∧ r.all PV.single = true) = True := T_provenderref11_view.w.rows l
theorem T_provenderref11_view.r1 (l : List T_provenderref11_view) : (∀ r ∈ l.map T_provenderref11_view.c, r.length = 5) = True := T_provenderref11_view.w.rowl l
theorem T_provenderref11_view.n (l : List T_provenderref11_view) : nzPss (l.map T_provenderref11_view.c) = l.map T_provenderref11_view.c := T_provenderref11_view.w.nzs l
attribute [go_sem] T_provenderref11_view.c T_provenderref11_view.r T_provenderref11_view.r1 T_provenderref11_view.n
structure T_history_piece where
  x : T_api_Exposure
  from' : Int
  to' : Int
def T_history_piece.c (x : T_history_piece) : List PV := [vs x.x.Advisory.b, vs x.x.Component.b, vi x.x.Severity, vi x.from', vi x.to']
theorem T_history_piece.w : Wide 5 T_history_piece.c := ⟨fun _ => rfl, fun _ => rfl, fun x => by simp only [T_history_piece.c, nzPs, nzP]⟩
theorem T_history_piece.r (l : List T_history_piece) : (∀ r ∈ l.map T_history_piece.c, r.length = 5 ∧ r.all PV.single = true) = True := T_history_piece.w.rows l
theorem T_history_piece.r1 (l : List T_history_piece) : (∀ r ∈ l.map T_history_piece.c, r.length = 5) = True := T_history_piece.w.rowl l
theorem T_history_piece.n (l : List T_history_piece) : nzPss (l.map T_history_piece.c) = l.map T_history_piece.c := T_history_piece.w.nzs l
attribute [go_sem] T_history_piece.c T_history_piece.r T_history_piece.r1 T_history_piece.n
theorem map_string_T_api_Published_put (k : Str) (a0 : Str) (a1 : Int) (a2 : Int) (m : List (Str × T_api_Published)) : mput (.one .str) (.c (.string k.b)) (.agg [vs a0.b, vi a1, vi a2]) (m.map (cM kS (pA T_api_Published.c))) = some ((mset kEqS k (T_api_Published.mk a0 a1 a2) m).map (cM kS (pA T_api_Published.c))) := putS (g := (pA T_api_Published.c)) k (T_api_Published.mk a0 a1 a2) m
theorem map_string_T_api_Published_getD (o : Option T_api_Published) : (o.map (pA T_api_Published.c)).getD (.agg [.c (.string ⟨#[]⟩), vi 0, vi 0]) = .agg (T_api_Published.c (o.getD (T_api_Published.mk str_ 0 0))) := getD_map (pA T_api_Published.c) o (T_api_Published.mk str_ 0 0)
theorem map_string_T_api_Published_nz (m : List (Str × T_api_Published)) : nzPm (m.map (cM kS (pA T_api_Published.c))) = m.map (cM kS (pA T_api_Published.c)) := nzM nkS (npA T_api_Published.w) m
attribute [go_sem] map_string_T_api_Published_put map_string_T_api_Published_getD map_string_T_api_Published_nz
noncomputable def ref11_knownFault (v0 : List T_api_Published) : Option Int :=
  seqK (forL (σ := Unit) (τ := Unit) v0 (fun i1 x4 _ => Option.bind (ref11_isName x4.Advisory) fun y14 => if (!y14) = true then (some (.ret 8)) else (Option.bind (gAnd (decide ((i1 : Int) > 0)) (Option.bind (idx v0 (w64 ((i1 : Int) - 1))) fun x16 => some (sLt x4.Advisory.b x16.Advisory.b || sEq x4.Advisory.b x16.Advisory.b))) fun b18 => if b18 = true then (some (.ret 10)) else (Option.bind (ref11_isDay x4.Day) fun y23 => if ((!y23) || ((x4.Ended != (-1)) && ((decide (x4.Ended < x4.Day)) || (decide (x4.Ended > 1000000))))) = true then (some (.ret 9)) else (some (.next ()))))) (fun _ => ()) ()) fun _ => some 0
noncomputable def ref11_Check (v0 : T_api_Story) : Option Int :=
  Option.bind (ref11_isName v0.Product) fun y1 => if (!y1) = true then (some 8) else (Option.bind (ref11_isDay v0.Until) fun y3 => if (!y3) = true then (some 9) else (if ((decide ((v0.Releases.length : Int) > 500)) || (decide ((v0.Known.length : Int) > 2000))) = true then (some 3) else (seqK (forL (σ := (List (Str × Bool))) (τ := Unit) v0.Releases (fun i6 x9 m18 => Option.bind (ref11_isName x9.Version) fun y28 => if (!y28) = true then (some (.ret 8)) else (if ((mget kEqS x9.Version m18).getD false) = true then (some (.ret 5)) else (if ((decide (x9.Day < 0)) || (decide (x9.Day > v0.Until))) = true then (some (.ret 9)) else (Option.bind (gAnd (decide ((i6 : Int) > 0)) (Option.bind (idx v0.Releases (w64 ((i6 : Int) - 1))) fun x31 => some (decide (x9.Day ≤ x31.Day)))) fun b33 => if b33 = true then (some (.ret 10)) else (Option.bind (ref11_exposuresFault x9.Exposures) fun y38 => if (y38 != 0) = true then (some (.ret y38)) else (some (.next (mset kEqS x9.Version true m18)))))))) (fun m18 => ()) []) fun _ => Option.bind (ref11_knownFault v0.Known) fun y40 => if (y40 != 0) = true then (some y40) else (seqK (forL (σ := (List (Str × Bool))) (τ := (List (Str × Bool))) v0.Known (fun _ x45 m46 => some (.next (mset kEqS x45.Advisory true m46))) (fun m46 => m46) []) fun m47 => seqK (forL (σ := Unit) (τ := Unit) v0.Releases (fun _ x52 _ => seqK (forL (σ := Unit) (τ := Unit) x52.Exposures (fun _ x62 _ => if (!((mget kEqS x62.Advisory m47).getD false)) = true then (some (.ret (.ret 4))) else (some (.next ()))) (fun _ => ()) ()) fun _ => some (.next ())) (fun _ => ()) ()) fun _ => some 0))))
noncomputable def ref11_used (v0 : T_api_Story) (v1 : Int) : Option (T_api_Release × Bool) :=
  seqK (forL (σ := Bool × Str × Int × (List T_api_Exposure)) (τ := Bool × Str × Int × (List T_api_Exposure)) v0.Releases (fun _ x4 (b5, s6, n7, l8) => if (decide (x4.Day ≤ v1)) = true then (some (.next (true, x4.Version, x4.Day, x4.Exposures))) else (some (.next (b5, s6, n7, l8)))) (fun (b5, s6, n7, l8) => (b5, s6, n7, l8)) (false, str_, 0, ([] : List T_api_Exposure))) fun (b9, s10, n11, l12) => if ((!b9) || (decide (v1 ≥ v0.Until))) = true then (some ((T_api_Release.mk str_ 0 ([] : List T_api_Exposure)), false)) else (some ((T_api_Release.mk s10 n11 l12), true))
noncomputable def ref11_Used (v0 : T_api_Story) (v1 : Int) : Option (T_api_Release × Bool × Int) :=
  Option.bind (ref11_Check v0) fun y1 => if (y1 != 0) = true then (some ((T_api_Release.mk str_ 0 ([] : List T_api_Exposure)), false, y1)) else (Option.bind (ref11_isDay v1) fun y3 => if (!y3) = true then (some ((T_api_Release.mk str_ 0 ([] : List T_api_Exposure)), false, 9)) else (Option.bind (ref11_used v0 v1) fun (y5, y6) => some (y5, y6, 0)))
noncomputable def history_checkReleases (v0 : T_api_Story) : Option Int :=
  seqK (forL (σ := (List (Str × Bool))) (τ := Unit) v0.Releases (fun i1 x4 m13 => Option.bind (history_isName x4.Version) fun y23 => if (!y23) = true then (some (.ret 8)) else (if ((mget kEqS x4.Version m13).getD false) = true then (some (.ret 5)) else (if ((decide (x4.Day < 0)) || (decide (x4.Day > v0.Until))) = true then (some (.ret 9)) else (Option.bind (gAnd (decide ((i1 : Int) > 0)) (Option.bind (idx v0.Releases (w64 ((i1 : Int) - 1))) fun x26 => some (decide (x4.Day ≤ x26.Day)))) fun b28 => if b28 = true then (some (.ret 10)) else (Option.bind (history_checkExposures x4.Exposures) fun y33 => if (y33 != 0) = true then (some (.ret y33)) else (some (.next (mset kEqS x4.Version true m13)))))))) (fun m13 => ()) []) fun _ => some 0
noncomputable def history_Check (v0 : T_api_Story) : Option Int :=
  Option.bind (history_isName v0.Product) fun y1 => if (!y1) = true then (some 8) else (Option.bind (history_isDay v0.Until) fun y3 => if (!y3) = true then (some 9) else (if ((decide ((v0.Releases.length : Int) > 500)) || (decide ((v0.Known.length : Int) > 2000))) = true then (some 3) else (Option.bind (history_checkReleases v0) fun y6 => if (y6 != 0) = true then (some y6) else (seqK (forL (σ := (List (Str × Bool))) (τ := (List (Str × Bool))) v0.Known (fun i8 x11 m20 => Option.bind (history_isName x11.Advisory) fun y31 => if (!y31) = true then (some (.ret 8)) else (Option.bind (gAnd (decide ((i8 : Int) > 0)) (Option.bind (idx v0.Known (w64 ((i8 : Int) - 1))) fun x33 => some (sLt x11.Advisory.b x33.Advisory.b || sEq x11.Advisory.b x33.Advisory.b))) fun b35 => if b35 = true then (some (.ret 10)) else (Option.bind (history_isDay x11.Day) fun y40 => if ((!y40) || ((x11.Ended != (-1)) && ((decide (x11.Ended < x11.Day)) || (decide (x11.Ended > 1000000))))) = true then (some (.ret 9)) else (some (.next (mset kEqS x11.Advisory true m20)))))) (fun m20 => m20) []) fun m29 => seqK (forL (σ := Unit) (τ := Unit) v0.Releases (fun _ x48 _ => seqK (forL (σ := Unit) (τ := Unit) x48.Exposures (fun _ x58 _ => if (!((mget kEqS x58.Advisory m29).getD false)) = true then (some (.ret (.ret 4))) else (some (.next ()))) (fun _ => ()) ()) fun _ => some (.next ())) (fun _ => ()) ()) fun _ => some 0))))
noncomputable def history_used (v0 : T_api_Story) (v1 : Int) : Option Int :=
  if (decide (v1 ≥ v0.Until)) = true then (some (-1)) else (seqK (forL (σ := Int) (τ := Int) v0.Releases (fun i1 x4 n5 => if (decide (x4.Day ≤ v1)) = true then (some (.next (i1 : Int))) else (some (.next n5))) (fun n5 => n5) (-1)) fun n6 => some n6)
noncomputable def slices_Clone_Exposure_Exposure (v0 : List T_api_Exposure) : Option (List T_api_Exposure) := app 40 [] v0
noncomputable def history_copied (v0 : T_api_Release) : Option T_api_Release :=
  Option.bind (slices_Clone_Exposure_Exposure v0.Exposures) fun y1 => some (T_api_Release.mk v0.Version v0.Day y1)
noncomputable def history_Used (v0 : T_api_Story) (v1 : Int) : Option (T_api_Release × Bool × Int) :=
  Option.bind (history_Check v0) fun y1 => if (y1 != 0) = true then (some ((T_api_Release.mk str_ 0 ([] : List T_api_Exposure)), false, y1)) else (Option.bind (history_isDay v1) fun y3 => if (!y3) = true then (some ((T_api_Release.mk str_ 0 ([] : List T_api_Exposure)), false, 9)) else (Option.bind (history_used v0 v1) fun y5 => if (decide (y5 < 0)) = true then (some ((T_api_Release.mk str_ 0 ([] : List T_api_Exposure)), false, 0)) else (Option.bind (idx v0.Releases y5) fun x7 => Option.bind (history_copied x7) fun y9 => some (y9, true, 0))))
noncomputable def ref11_viewOf (v0 : T_api_Story) : Option T_provenderref11_view :=
  seqK (forL (σ := (List (Str × T_api_Published))) (τ := (List (Str × T_api_Published))) v0.Known (fun _ x4 m5 => some (.next (mset kEqS x4.Advisory x4 m5))) (fun m5 => m5) []) fun m6 => some (T_provenderref11_view.mk v0 m6)
noncomputable def ref11_view_isOpen (v0 : T_provenderref11_view) (v1 : T_api_Exposure) (v2 : Int) : Option Bool :=
  some ((decide (((mget kEqS v1.Advisory v0.known).getD (T_api_Published.mk str_ 0 0)).Day ≤ v2)) && ((((mget kEqS v1.Advisory v0.known).getD (T_api_Published.mk str_ 0 0)).Ended == (-1)) || (decide (((mget kEqS v1.Advisory v0.known).getD (T_api_Published.mk str_ 0 0)).Ended > v2))))
noncomputable def ref11_view_open (v0 : T_provenderref11_view) (v1 : Int) : Option (List T_api_Exposure) :=
  Option.bind (ref11_used v0.s v1) fun (y1, y2) => seqK (forL (σ := (List T_api_Exposure)) (τ := (List T_api_Exposure)) y1.Exposures (fun _ x7 l16 => Option.bind (ref11_view_isOpen v0 x7 v1) fun y23 => if y23 = true then (Option.bind (app 40 l16 [x7]) fun l25 => some (.next l25)) else (some (.next l16))) (fun l16 => l16) ([] : List T_api_Exposure)) fun l21 => some l21
noncomputable def ref11_OpenOn (v0 : T_api_Story) (v1 : Int) : Option ((List T_api_Exposure) × Int) :=
  Option.bind (ref11_Check v0) fun y1 => if (y1 != 0) = true then (some (([] : List T_api_Exposure), y1)) else (Option.bind (ref11_isDay v1) fun y3 => if (!y3) = true then (some (([] : List T_api_Exposure), 9)) else (Option.bind (ref11_viewOf v0) fun y5 => Option.bind (ref11_view_open y5 v1) fun y7 => some (y7, 0)))
noncomputable def history_pieces (v0 : T_api_Story) : Option (List T_history_piece) :=
  seqK (forL (σ := (List (Str × T_api_Published))) (τ := (List (Str × T_api_Published))) v0.Known (fun _ x4 m5 => some (.next (mset kEqS x4.Advisory x4 m5))) (fun m5 => m5) []) fun m6 => seqK (forL (σ := (List T_history_piece)) (τ := (List T_history_piece)) v0.Releases (fun i8 x11 l66 => seqK (τ := Int) (if (decide (((i8 + 1 : Nat) : Int) < (v0.Releases.length : Int))) = true then (Option.bind (idx v0.Releases ((i8 + 1 : Nat) : Int)) fun x98 => some (.inl x98.Day)) else (some (.inl v0.Until))) fun n96 => seqK (forL (σ := (List T_history_piece)) (τ := (List T_history_piece)) x11.Exposures (fun _ x103 l108 => seqK (τ := Int) (if (decide (((mget kEqS x103.Advisory m6).getD (T_api_Published.mk str_ 0 0)).Ended ≥ 0)) = true then (some (.inl (if ((mget kEqS x103.Advisory m6).getD (T_api_Published.mk str_ 0 0)).Ended < n96 then ((mget kEqS x103.Advisory m6).getD (T_api_Published.mk str_ 0 0)).Ended else n96))) else (some (.inl n96))) fun n115 => if (decide ((if x11.Day < ((mget kEqS x103.Advisory m6).getD (T_api_Published.mk str_ 0 0)).Day then ((mget kEqS x103.Advisory m6).getD (T_api_Published.mk str_ 0 0)).Day else x11.Day) < n115)) = true then (Option.bind (app 56 l108 [(T_history_piece.mk x103 (if x11.Day < ((mget kEqS x103.Advisory m6).getD (T_api_Published.mk str_ 0 0)).Day then ((mget kEqS x103.Advisory m6).getD (T_api_Published.mk str_ 0 0)).Day else x11.Day) n115)]) fun l117 => some (.next l117)) else (some (.next l108))) (fun l108 => l108) l66) fun l113 => some (.next l113)) (fun l66 => l66) ([] : List T_history_piece)) fun l92 => some l92
noncomputable def history_OpenOn (v0 : T_api_Story) (v1 : Int) : Option ((List T_api_Exposure) × Int) :=
  Option.bind (history_Check v0) fun y1 => if (y1 != 0) = true then (some (([] : List T_api_Exposure), y1)) else (Option.bind (history_isDay v1) fun y3 => if (!y3) = true then (some (([] : List T_api_Exposure), 9)) else (Option.bind (history_pieces v0) fun y5 => seqK (forL (σ := (List T_api_Exposure)) (τ := (List T_api_Exposure)) y5 (fun _ x10 l15 => if ((decide (x10.from' ≤ v1)) && (decide (v1 < x10.to'))) = true then (Option.bind (app 40 l15 [x10.x]) fun l21 => some (.next l21)) else (some (.next l15))) (fun l15 => l15) ([] : List T_api_Exposure)) fun l18 => some (l18, 0)))
noncomputable def law11_sameRelease (v0 : T_api_Release) (v1 : T_api_Release) : Option Bool :=
  Option.bind (gAnd ((sEq v0.Version.b v1.Version.b) && (v0.Day == v1.Day)) (Option.bind (slices_Equal_Exposure_Exposure v0.Exposures v1.Exposures) fun y1 => some y1)) fun b3 => some b3
noncomputable def law11_HistoryCheckMatchesSpec (v0 : T_api_Story) (v1 : Int) : Option Bool :=
  Option.bind (ref11_Used v0 v1) fun (y1, y2, y3) => Option.bind (history_Used v0 v1) fun (y5, y6, y7) => Option.bind (ref11_OpenOn v0 v1) fun (y9, y10) => Option.bind (history_OpenOn v0 v1) fun (y12, y13) => Option.bind (ref11_Check v0) fun y15 => Option.bind (history_Check v0) fun y17 => Option.bind (gAnd (y15 == y17) (Option.bind (law11_sameRelease y5 y1) fun y19 => some y19)) fun b21 => Option.bind (gAnd ((b21 && (y6 == y2)) && (y7 == y3)) (Option.bind (slices_Equal_Exposure_Exposure y12 y9) fun y23 => some y23)) fun b25 => Option.bind (gAnd (b25 && (y13 == y10)) (Option.bind (law11_told) fun y27 => some y27)) fun b29 => some b29
end Go.Abs
