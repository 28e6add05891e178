/-
  Texts of this claim, laid together by a program of mine. No condition beyond what each theorem names.
-/
import Derived.Test.YthmcbgidehjlbaaGreatRows
import Derived.Test.YthmcbgidehjlbaaGreatRmBase
import Derived.Test.YthmcbgidehjlbaaGreatRmRegion
/-
  plan's functions, and the document's own, each as a plain function. No condition beyond what each theorem names.
-/
namespace Go.Proofs.YthmcbgidehjlbaaGreat.P
open _root_.Go.Proofs.Tryz
open Go Go.RowKit K
set_option maxHeartbeats 1000000
abbrev Ar:=Int×Int
def arV (a:Ar):Value:=.agg #[.int .i64 a.1,.int .i64 a.2]
def splitB (a:Ar):Bool:=decide (0≤a.1∧a.1≤65536∧48≤a.2∧a.2≤65536)
def metaA (a:Ar):Ar:=if splitB a then (a.1,a.2 - a.2 / 2) else (0,0)
def dataA (a:Ar):Ar:=if splitB a then (a.1+(a.2 - a.2 / 2),a.2 / 2) else (0,0)
theorem split_ok (a:Ar) (w:World):Calls prog 29 #[arV a] w fun e w'=>e=.returned (.tuple #[arV (metaA a),arV (dataA a),.bool (splitB a)])∧Below w.heap.size w w':=by
 obtain⟨x,y⟩:=a;unfold arV;cases hb:splitB (x,y) with
 | false=>
  have HB:=LH hb;have hf:x<0∨65536<x∨y<48∨65536<y:=by simp[splitB] at hb;omega
  clear hb;rcases (by omega:x<0∨(¬ x<0∧65536<x)∨(¬ x<0∧¬ 65536<x∧y<48)∨(¬ x<0∧¬ 65536<x∧¬ y<48∧65536<y)) with h1|⟨h1,h2⟩|⟨h1,h2,h3⟩|⟨h1,h2,h3,h4⟩
  all_goals
   clear hf;go_enter func29,ntmps29;go_wp2
   go_region
   all_goals
    go_wp2;refine bodyPost_ret (v:=.tuple #[arV (metaA (x,y)),arV (dataA (x,y)),.bool false]) ?_ rfl ?_
    ·simp[results,results29,go_sem,arV,metaA,dataA,HB.out]
    ·refine⟨rfl,?_⟩
     repeat (first|exact Below.refl _ _|assumption|refine Below.drew ?_|refine Below.alloc ?_ (by first|exact Nat.le_refl _|(simp;done)|(simp;omega)) _|refine Below.setCell ?_ (by first|exact Nat.le_refl _|(simp;done)|(simp;omega)) _)
 | true=>
  have HB:=LH hb;have hf:0≤x∧x≤65536∧48≤y∧y≤65536:=by simpa [splitB] using hb
  clear hb;go_enter func29,ntmps29;go_wp2
  go_region
  all_goals
   go_wp2;refine bodyPost_ret (v:=.tuple #[arV (metaA (x,y)),arV (dataA (x,y)),.bool true]) ?_ rfl ?_
   ·simp[results,results29,go_sem,arV,metaA,dataA,HB.out]
   ·refine⟨rfl,?_⟩
    repeat (first|exact Below.refl _ _|assumption|refine Below.drew ?_|refine Below.alloc ?_ (by first|exact Nat.le_refl _|(simp;done)|(simp;omega)) _|refine Below.setCell ?_ (by first|exact Nat.le_refl _|(simp;done)|(simp;omega)) _)
def countsB (a:Ar):Bool:=decide (0≤a.1∧a.1≤1048576∧1≤a.2∧a.2≤1048576)
theorem counts_ok (a:Ar) (w:World):Calls prog 57 #[arV a] w fun e w'=>e=.returned (.bool (countsB a))∧Below w.heap.size w w':=by
 obtain⟨x,y⟩:=a;unfold arV;go_enter func57,ntmps57;go_wp2
 all_goals go_ret
 all_goals exact⟨ret_bool (by simp[countsB, *];try omega),(Below.refl _ _).alloc (Nat.le_refl _) _⟩
end Go.Proofs.YthmcbgidehjlbaaGreat.P
/-
  plan's Inside, Has, Overlap, and the document's Inside. No condition beyond what each theorem names.
-/
namespace Go.Proofs.YthmcbgidehjlbaaGreat.P
open _root_.Go.Proofs.Tryz
open Go Go.RowKit K
set_option maxHeartbeats 1000000
theorem bcell {W w1:World}(hb:Below W.heap.size W w1):(∀ b o,b<W.heap.size→w1.cell? ⟨b,o,none⟩=W.cell? ⟨b,o,none⟩)∧(∀ b o,b<W.heap.size→w1.frozen? ⟨b,o,none⟩=W.frozen? ⟨b,o,none⟩):=
 ⟨fun b o h=>hb.cell (p:=⟨b,o,none⟩) h,fun b o h=>hb.frozen (p:=⟨b,o,none⟩) h⟩
def insideB (a:Ar) (f c:Int):Bool:=countsB a && decide (0≤f∧48≤c∧c≤a.2∧f≤a.2 - c)
def insideA (a:Ar) (f c:Int):Ar:=if insideB a f c then (a.1+f,c) else (0,0)
theorem inside_ok (a:Ar) (f c:Int) (w:World):Calls prog 30 #[arV a,.int .i64 f,.int .i64 c] w fun e w'=>e=.returned (.tuple #[arV (insideA a f c),.bool (insideB a f c)])∧Below w.heap.size w w':=by
 obtain⟨x,y⟩:=a;have HC:=fun u=>LH (counts_ok (x,y) u)
 unfold arV at*;cases hb:insideB (x,y) f c with
 | true=>
  have HB:=LH hb;have hf:(0≤x∧x≤1048576∧1≤y∧y≤1048576)∧0≤f∧48≤c∧c≤y∧f≤y - c:=by simpa [insideB,countsB] using hb
  have HK:=LH (show countsB (x,y)=true by simp[countsB];omega);clear hb;go_enter func30,ntmps30
  go_wp2_with fail
  refine (HC _).out.mono ?_;rw[HK.out];rintro e w1 ⟨rfl,hb⟩;obtain⟨hc,hfz⟩:=bcell hb;have hz:w.heap.size+1<w1.heap.size:=by have:=hb.size;simp at this;omega
  have HBL:=LH (((((Below.refl _ w).alloc (Nat.le_refl _) (.cells #[.int .i64 x,.int .i64 y] 27)).alloc (by simp) (.cells #[.int .i64 0,.int .i64 0] 27))).trans (hb.mono (by simp;omega)));clear hb;go_wp2;refine bodyPost_ret (v:=.tuple #[arV (x+f,c),.bool true]) ?_ rfl ?_
  ·simp[results,results30,go_sem,hc];rfl
  ·refine⟨by simp[insideA,HB.out,arV],?_⟩;have hbl:=HBL.out
   repeat (first|exact Below.refl _ _|assumption|refine Below.drew ?_|refine Below.alloc ?_ (by first|exact Nat.le_refl _|(simp;done)|(simp;omega)) _|refine Below.setCell ?_ (by first|exact Nat.le_refl _|(simp;done)|(simp;omega)) _)
 | false=>
  have HB:=LH hb;cases hk:countsB (x,y) with
  | false=>
   have HK:=LH hk;clear hb hk;go_enter func30,ntmps30
   go_wp2_with fail
   refine (HC _).out.mono ?_;rw[HK.out];rintro e w1 ⟨rfl,hb⟩;obtain⟨hc,hfz⟩:=bcell hb;have hz:w.heap.size+1<w1.heap.size:=by have:=hb.size;simp at this;omega
   have HBL:=LH (((((Below.refl _ w).alloc (Nat.le_refl _) (.cells #[.int .i64 x,.int .i64 y] 27)).alloc (by simp) (.cells #[.int .i64 0,.int .i64 0] 27))).trans (hb.mono (by simp;omega)));clear hb;go_wp2;refine bodyPost_ret (v:=.tuple #[arV (0,0),.bool false]) ?_ rfl ?_
   ·simp[results,results30,go_sem,hc];rfl
   ·refine⟨by simp[insideA,HB.out,arV],?_⟩;have hbl:=HBL.out
    repeat (first|exact Below.refl _ _|assumption|refine Below.drew ?_|refine Below.alloc ?_ (by first|exact Nat.le_refl _|(simp;done)|(simp;omega)) _|refine Below.setCell ?_ (by first|exact Nat.le_refl _|(simp;done)|(simp;omega)) _)
  | true=>
   have HK:=LH hk;have hk':0≤x∧x≤1048576∧1≤y∧y≤1048576:=by simpa [countsB] using hk
   have hf:¬ (0≤f∧48≤c∧c≤y∧f≤y - c):=by simp[insideB,hk] at hb;omega
   clear hb hk;rcases (by omega:f<0∨(¬ f<0∧c<48)∨(¬ f<0∧¬ c<48∧y<c)∨(¬ f<0∧¬ c<48∧¬ y<c∧y - c<f)) with h4|⟨h4,h5⟩|⟨h4,h5,h6⟩|⟨h4,h5,h6,h7⟩
   all_goals
    clear hf;go_enter func30,ntmps30
    go_wp2_with fail
    refine (HC _).out.mono ?_;rw[HK.out];rintro e w1 ⟨rfl,hb⟩;obtain⟨hc,hfz⟩:=bcell hb;have hz:w.heap.size+1<w1.heap.size:=by have:=hb.size;simp at this;omega
    have HBL:=LH (((((Below.refl _ w).alloc (Nat.le_refl _) (.cells #[.int .i64 x,.int .i64 y] 27)).alloc (by simp) (.cells #[.int .i64 0,.int .i64 0] 27))).trans (hb.mono (by simp;omega)));clear hb;go_wp2;refine bodyPost_ret (v:=.tuple #[arV (0,0),.bool false]) ?_ rfl ?_
    ·simp[results,results30,go_sem,hc];rfl
    ·refine⟨by simp[insideA,HB.out,arV],?_⟩;have hbl:=HBL.out
     repeat (first|exact Below.refl _ _|assumption|refine Below.drew ?_|refine Below.alloc ?_ (by first|exact Nat.le_refl _|(simp;done)|(simp;omega)) _|refine Below.setCell ?_ (by first|exact Nat.le_refl _|(simp;done)|(simp;omega)) _)
def hasB (a:Ar) (t:Int):Bool:=decide (0<a.2∧a.1≤t∧t<a.1+a.2)
theorem has_ok (a:Ar) (t:Int) (h:0≤a.1∧a.1≤1000000000∧a.2≤1000000000∧0≤t∧t≤1000000000) (w:World):Calls prog 69 #[arV a,.int .i64 t] w fun e w'=>e=.returned (.bool (hasB a t))∧Below w.heap.size w w':=by
 obtain⟨x,y⟩:=a;simp only at h;unfold arV;by_cases h1:0<y
 ·by_cases h2:x≤t
  ·have e1:(hasB (x,y) t)=decide (t - x<y):=by rw[Bool.eq_iff_iff];simp[hasB];omega
   have HE:=LH e1;clear e1;go_enter func69,ntmps69;go_wp2;go_ret;refine⟨ret_bool ?_,?_⟩
   ·rw[HE.out]
   ·repeat (first|exact Below.refl _ _|assumption|refine Below.drew ?_|refine Below.alloc ?_ (by first|exact Nat.le_refl _|(simp;done)|(simp;omega)) _|refine Below.setCell ?_ (by first|exact Nat.le_refl _|(simp;done)|(simp;omega)) _)
  ·have HE:=LH (show hasB (x,y) t=false by simp[hasB];omega);go_enter func69,ntmps69;go_wp2;go_ret;refine⟨ret_bool ?_,?_⟩
   ·rw[HE.out]
   ·repeat (first|exact Below.refl _ _|assumption|refine Below.drew ?_|refine Below.alloc ?_ (by first|exact Nat.le_refl _|(simp;done)|(simp;omega)) _|refine Below.setCell ?_ (by first|exact Nat.le_refl _|(simp;done)|(simp;omega)) _)
 ·have HE:=LH (show hasB (x,y) t=false by simp[hasB];omega);go_enter func69,ntmps69;go_wp2;go_ret;refine⟨ret_bool ?_,?_⟩
  ·rw[HE.out]
  ·repeat (first|exact Below.refl _ _|assumption|refine Below.drew ?_|refine Below.alloc ?_ (by first|exact Nat.le_refl _|(simp;done)|(simp;omega)) _|refine Below.setCell ?_ (by first|exact Nat.le_refl _|(simp;done)|(simp;omega)) _)
def overB (a b:Ar):Bool:=(decide (0<b.2) && hasB a b.1) || (decide (0<a.2) && hasB b a.1)
theorem over_ok (a b:Ar) (h:0≤a.1∧a.1≤1000000000∧a.2≤1000000000∧0≤b.1∧b.1≤1000000000∧b.2≤1000000000) (w:World):Calls prog 47 #[arV a,arV b] w fun e w'=>e=.returned (.bool (overB a b))∧Below w.heap.size w w':=by
 have H1:=fun u=>LH (has_ok a b.1 (by omega) u)
 have H2:=fun u=>LH (has_ok b a.1 (by omega) u)
 have HO:Hid (overB a b=((decide (0<b.2) && hasB a b.1) || (decide (0<a.2) && hasB b a.1))):=rfl;generalize overB a b=o at*;generalize hasB a b.1=p at*;generalize hasB b a.1=q at*;obtain⟨x,y⟩:=a;obtain⟨u,v⟩:=b;unfold arV at*;simp only at H1 H2 HO;clear h;have hb2:Below w.heap.size w ((w.alloc (.cells #[.int .i64 x,.int .i64 y] 27)).alloc (.cells #[.int .i64 u,.int .i64 v] 27)):=((Below.refl _ w).alloc (Nat.le_refl _) _).alloc (by simp) _;have HB2:=LH hb2;clear hb2;by_cases h1:0<v
 ·cases p with
  | true=>
   have HV:=LH (show o=true by rw[HO.out];simp[h1]);go_enter func47,ntmps47
   go_wp2_with fail
   refine (H1 _).out.mono ?_;rintro e w1 ⟨rfl,hb⟩;have hfin:=HB2.out.trans (hb.mono (by simp;omega));clear hb
   go_wp2_with fail
   go_ret;exact⟨ret_bool HV.out.symm,hfin⟩
  | false=>
   by_cases h2:0<y
   ·have HV:=LH (show o=q by rw[HO.out];simp[h1,h2]);go_enter func47,ntmps47
    go_wp2_with fail
    refine (H1 _).out.mono ?_;rintro e w1 ⟨rfl,hb⟩;obtain⟨hc,hfz⟩:=bcell hb;have hz:w.heap.size+1<w1.heap.size:=by have:=hb.size;simp at this;omega
    have HF:=LH (HB2.out.trans (hb.mono (by simp;omega)));clear hb
    go_wp2_with fail
    refine (H2 _).out.mono ?_;rintro e w2 ⟨rfl,hb⟩;have hfin:=HF.out.trans (hb.mono (by omega));clear hb hc hfz
    go_wp2_with fail
    go_ret;exact⟨ret_bool HV.out.symm,hfin⟩
   ·have HV:=LH (show o=false by rw[HO.out];simp[h1,h2]);go_enter func47,ntmps47
    go_wp2_with fail
    refine (H1 _).out.mono ?_;rintro e w1 ⟨rfl,hb⟩;obtain⟨hc,hfz⟩:=bcell hb;have hz:w.heap.size+1<w1.heap.size:=by have:=hb.size;simp at this;omega
    have HF:=LH (HB2.out.trans (hb.mono (by simp;omega)));clear hb
    go_wp2_with fail
    go_ret;exact⟨ret_bool HV.out.symm,HF.out⟩
 ·by_cases h2:0<y
  ·have HV:=LH (show o=q by rw[HO.out];simp[h1,h2]);go_enter func47,ntmps47
   go_wp2_with fail
   refine (H2 _).out.mono ?_;rintro e w2 ⟨rfl,hb⟩;have hfin:=HB2.out.trans (hb.mono (by simp;omega));clear hb
   go_wp2_with fail
   go_ret;exact⟨ret_bool HV.out.symm,hfin⟩
  ·have HV:=LH (show o=false by rw[HO.out];simp[h1,h2]);go_enter func47,ntmps47
   go_wp2_with fail
   go_ret;exact⟨ret_bool HV.out.symm,HB2.out⟩
end Go.Proofs.YthmcbgidehjlbaaGreat.P
