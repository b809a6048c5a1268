/- strconv.Itoa and strings.Repeat: the shelf's contracts, laid at the program of chapter 34 (the numbers are that seat's; printed by wip/mklay.py). -/
import Derived.Test.YtacmjhcfjhpkeaaGreatDoorProg
import Derived.Test.YtacmjhcfjhpkeaaGreatDoorTxAm
import Derived.Shelf.Strconv.Itoa4
import Derived.Shelf.Strings.Repeat
namespace Go.Proofs.YtacmjhcfjhpkeaaGreatDoor
open Go.RowKit Go.Deco Go.Sort Go.Shelf
set_option linter.unusedSimpArgs false
set_option linter.unusedVariables false
def Tryz.itoa171_ren : Go.Shelf.Ren := ⟨fun | 171 => 100 | 243 => 130 | 246 => 144 | 283 => 101 | 284 => 102 | 285 => 103 | 286 => 104 | 129 => 128 | 317 => 131 | 318 => 132 | 319 => 133 | 320 => 134 | 337 => 145 | 338 => 146 | n => n, fun | 3 => 3 | 9 => 9 | 2 => 2 | 4 => 4 | 171 => 119 | 0 => 0 | 53 => 64 | 37 => 62 | 5 => 5 | 173 => 122 | 212 => 146 | 51 => 61 | 20 => 20 | 213 => 147 | 46 => 91 | 232 => 163 | 233 => 164 | n => n, fun | 17 => 0 | 18 => 2 | 19 => 3 | n => n⟩
theorem Tryz.itoa171 : LaysM.n171 Tryz.prog Tryz.itoa171_ren := {
 mixed := by kernel_rfl
 f129 := Tryz.func128.trans (congrArg some (by kernel_rfl))
 f171 := Tryz.func100.trans (congrArg some (by kernel_rfl))
 f243 := Tryz.func130.trans (congrArg some (by kernel_rfl))
 f246 := Tryz.func144.trans (congrArg some (by kernel_rfl))
 f283 := Tryz.func101.trans (congrArg some (by kernel_rfl))
 f284 := Tryz.func102.trans (congrArg some (by kernel_rfl))
 f285 := Tryz.func103.trans (congrArg some (by kernel_rfl))
 f286 := Tryz.func104.trans (congrArg some (by kernel_rfl))
 f317 := Tryz.func131.trans (congrArg some (by kernel_rfl))
 f318 := Tryz.func132.trans (congrArg some (by kernel_rfl))
 f319 := Tryz.func133.trans (congrArg some (by kernel_rfl))
 f320 := Tryz.func134.trans (congrArg some (by kernel_rfl))
 f337 := Tryz.func145.trans (congrArg some (by kernel_rfl))
 f338 := Tryz.func146.trans (congrArg some (by kernel_rfl))
 t0 := Tryz.underlying0
 a0 := Tryz.isAgg0
 z0 := Tryz.sizeOf0
 v0 := Tryz.zeroValue0
 t2 := Tryz.underlying2
 a2 := Tryz.isAgg2
 z2 := Tryz.sizeOf2
 v2 := Tryz.zeroValue2
 t3 := Tryz.underlying3
 a3 := Tryz.isAgg3
 z3 := Tryz.sizeOf3
 v3 := Tryz.zeroValue3
 t4 := Tryz.underlying4
 a4 := Tryz.isAgg4
 z4 := Tryz.sizeOf4
 v4 := Tryz.zeroValue4
 t5 := Tryz.underlying5
 a5 := Tryz.isAgg5
 z5 := Tryz.sizeOf5
 v5 := Tryz.zeroValue5
 t9 := Tryz.underlying9
 a9 := Tryz.isAgg9
 z9 := Tryz.sizeOf9
 v9 := Tryz.zeroValue9
 t20 := Tryz.underlying20
 a20 := Tryz.isAgg20
 z20 := Tryz.sizeOf20
 v20 := Tryz.zeroValue20
 t37 := Tryz.underlying62
 a37 := Tryz.isAgg62
 z37 := Tryz.sizeOf62
 v37 := Tryz.zeroValue62
 t46 := Tryz.underlying91
 a46 := Tryz.isAgg91
 z46 := Tryz.sizeOf91
 v46 := Tryz.zeroValue91
 t51 := Tryz.underlying61
 a51 := Tryz.isAgg61
 z51 := Tryz.sizeOf61
 v51 := Tryz.zeroValue61
 t53 := Tryz.underlying64
 a53 := Tryz.isAgg64
 z53 := Tryz.sizeOf64
 v53 := Tryz.zeroValue64
 t171 := Tryz.underlying119
 a171 := Tryz.isAgg119
 z171 := Tryz.sizeOf119
 v171 := Tryz.zeroValue119
 t173 := Tryz.underlying122
 a173 := Tryz.isAgg122
 z173 := Tryz.sizeOf122
 v173 := Tryz.zeroValue122
 t212 := Tryz.underlying146
 a212 := Tryz.isAgg146
 z212 := Tryz.sizeOf146
 v212 := Tryz.zeroValue146
 t213 := Tryz.underlying147
 a213 := Tryz.isAgg147
 z213 := Tryz.sizeOf147
 t232 := Tryz.underlying163
 a232 := Tryz.isAgg163
 z232 := Tryz.sizeOf163
 v232 := Tryz.zeroValue163
 t233 := Tryz.underlying164
 a233 := Tryz.isAgg164
 z233 := Tryz.sizeOf164
 v233 := Tryz.zeroValue164
 g17 := by kernel_rfl
 g18 := by kernel_rfl
 g19 := by kernel_rfl
 i0 := by kernel_rfl
 i2 := by kernel_rfl
 i3 := by kernel_rfl
 i4 := by kernel_rfl
 i5 := by kernel_rfl
 i9 := by kernel_rfl
 i20 := by kernel_rfl
 i37 := by kernel_rfl
 i46 := by kernel_rfl
 i51 := by kernel_rfl
 i53 := by kernel_rfl
 i173 := by kernel_rfl
 m17 := by kernel_rfl
 m18 := by kernel_rfl
 m19 := by kernel_rfl
 i171 := by kernel_rfl
 i212 := by kernel_rfl
 i232 := by kernel_rfl
 i233 := by kernel_rfl }
def Tryz.rep105_ren : Go.Shelf.Ren := ⟨fun | 105 => 36 | 212 => 69 | 99 => 70 | 165 => 71 | 166 => 72 | 170 => 73 | 169 => 67 | 263 => 105 | 264 => 106 | 206 => 107 | 240 => 108 | 241 => 109 | 276 => 135 | 277 => 136 | n => n, fun | 9 => 9 | 3 => 3 | 4 => 4 | 20 => 20 | 0 => 0 | 46 => 91 | 109 => 92 | 5 => 5 | 72 => 86 | 76 => 98 | 51 => 61 | 146 => 124 | 53 => 64 | 148 => 126 | 70 => 84 | 37 => 62 | 75 => 97 | 127 => 118 | 164 => 148 | 80 => 90 | n => n, fun n => n⟩
theorem Tryz.rep105 : Lays.n105 Tryz.prog Tryz.rep105_ren := {
 mixed := by kernel_rfl
 f99 := Tryz.func70.trans (congrArg some (by kernel_rfl))
 f105 := Tryz.func36.trans (congrArg some (by kernel_rfl))
 f165 := Tryz.func71.trans (congrArg some (by kernel_rfl))
 f166 := Tryz.func72.trans (congrArg some (by kernel_rfl))
 f169 := Tryz.func67.trans (congrArg some (by kernel_rfl))
 f170 := Tryz.func73.trans (congrArg some (by kernel_rfl))
 f206 := Tryz.func107.trans (congrArg some (by kernel_rfl))
 f212 := Tryz.func69.trans (congrArg some (by kernel_rfl))
 f240 := Tryz.func108.trans (congrArg some (by kernel_rfl))
 f241 := Tryz.func109.trans (congrArg some (by kernel_rfl))
 f263 := Tryz.func105.trans (congrArg some (by kernel_rfl))
 f264 := Tryz.func106.trans (congrArg some (by kernel_rfl))
 f276 := Tryz.func135.trans (congrArg some (by kernel_rfl))
 f277 := Tryz.func136.trans (congrArg some (by kernel_rfl))
 t0 := Tryz.underlying0
 a0 := Tryz.isAgg0
 z0 := Tryz.sizeOf0
 v0 := Tryz.zeroValue0
 t3 := Tryz.underlying3
 a3 := Tryz.isAgg3
 z3 := Tryz.sizeOf3
 v3 := Tryz.zeroValue3
 t4 := Tryz.underlying4
 a4 := Tryz.isAgg4
 z4 := Tryz.sizeOf4
 v4 := Tryz.zeroValue4
 t5 := Tryz.underlying5
 a5 := Tryz.isAgg5
 z5 := Tryz.sizeOf5
 v5 := Tryz.zeroValue5
 t9 := Tryz.underlying9
 a9 := Tryz.isAgg9
 z9 := Tryz.sizeOf9
 v9 := Tryz.zeroValue9
 t20 := Tryz.underlying20
 a20 := Tryz.isAgg20
 z20 := Tryz.sizeOf20
 v20 := Tryz.zeroValue20
 t37 := Tryz.underlying62
 a37 := Tryz.isAgg62
 z37 := Tryz.sizeOf62
 v37 := Tryz.zeroValue62
 t46 := Tryz.underlying91
 a46 := Tryz.isAgg91
 z46 := Tryz.sizeOf91
 v46 := Tryz.zeroValue91
 t51 := Tryz.underlying61
 a51 := Tryz.isAgg61
 z51 := Tryz.sizeOf61
 v51 := Tryz.zeroValue61
 t53 := Tryz.underlying64
 a53 := Tryz.isAgg64
 z53 := Tryz.sizeOf64
 v53 := Tryz.zeroValue64
 t70 := Tryz.underlying84
 a70 := Tryz.isAgg84
 z70 := Tryz.sizeOf84
 v70 := Tryz.zeroValue84
 t72 := Tryz.underlying86
 a72 := Tryz.isAgg86
 z72 := Tryz.sizeOf86
 v72 := Tryz.zeroValue86
 t75 := Tryz.underlying97
 a75 := Tryz.isAgg97
 z75 := Tryz.sizeOf97
 v75 := Tryz.zeroValue97
 t76 := Tryz.underlying98
 a76 := Tryz.isAgg98
 z76 := Tryz.sizeOf98
 v76 := Tryz.zeroValue98
 t109 := Tryz.underlying92
 a109 := Tryz.isAgg92
 z109 := Tryz.sizeOf92
 v109 := Tryz.zeroValue92
 t127 := Tryz.underlying118
 a127 := Tryz.isAgg118
 z127 := Tryz.sizeOf118
 v127 := Tryz.zeroValue118
 t146 := Tryz.underlying124
 a146 := Tryz.isAgg124
 z146 := Tryz.sizeOf124
 v146 := Tryz.zeroValue124
 t148 := Tryz.underlying126
 a148 := Tryz.isAgg126
 z148 := Tryz.sizeOf126
 v148 := Tryz.zeroValue126
 t164 := Tryz.underlying148
 a164 := Tryz.isAgg148
 z164 := Tryz.sizeOf148
 v164 := Tryz.zeroValue148 }
theorem Tryz.rep105x : Builder.Extra Tryz.prog Tryz.rep105_ren := {
 sizeBuilder := by kernel_rfl
 liesBuilder := by kernel_rfl
 t5 := Tryz.underlying5
 a5 := fun w => by kernel_rfl
 z5 := fun w => by kernel_rfl
 v5 := fun w => by kernel_rfl
 infoByte := by kernel_rfl
 cellsByte := by kernel_rfl
 sizeByte := by kernel_rfl
 neB5 := by decide }
/-- The powers of ten that strconv reads. -/
def Tab10 (w : World) : Prop := Lib.TabIs Tryz.prog w "internal/strconv.uint64pow10" .u64 Lib.pow10Tab
theorem ext_grow (w : World) (k : Nat) (os : Array Obj) : Ext w (grow (w.drewN k) os) :=
 ⟨rfl, rfl, rfl, by simp [grow, World.drewN], fun b hb => by
  show (w.heap ++ os)[b]? = w.heap[b]?
  rw [Array.getElem?_append_left hb]⟩
theorem itoa_any (w : World) (ht : Tab10 w) (n : Nat) (hn : n < 1000000000) : Calls Tryz.prog 100 #[.int .i64 n] w (StrIs w (decN n)) := by
 refine (Any.strconv_Itoa Tryz.itoa171 n (by omega) (by omega) w ht).mono ?_
 rintro e w' ⟨rfl, k, os, rfl⟩
 refine ⟨?_, ext_grow w k os⟩
 rw [itoa_dec (Nat.lt_trans hn (by decide))]
 rfl
theorem repeatL_cons (c : List UInt8) (n : Nat) : Lib.repeatL c (n + 1) = c ++ Lib.repeatL c n := rfl
theorem rep_any (w : World) (n : Nat) (hn : n ≤ 100) : Calls Tryz.prog 36 #[.string ⟨#[48]⟩, .int .i64 n] w (StrIs w (List.replicate n 48)) := by
 refine (Any.strings_Repeat Tryz.rep105 Tryz.rep105x ⟨#[48]⟩ n w (by omega) (by show 1 * n ≤ _; omega)).mono ?_
 rintro e w' ⟨rfl, hx⟩
 refine ⟨?_, hx⟩
 congr 2
 show ByteArray.mk _ = _
 congr 1
 have H : ∀ k, Lib.repeatL [(48 : UInt8)] k = List.replicate k 48 := by
  intro k
  induction k with
  | zero => rfl
  | succ k ih => rw [repeatL_cons, ih]; rfl
 have H2 : List.map (fun x => UInt8.ofNat x) (List.replicate n 48) = List.replicate n 48 := by simp
 exact congrArg List.toArray ((H n).trans H2.symm)
end Go.Proofs.YtacmjhcfjhpkeaaGreatDoor
