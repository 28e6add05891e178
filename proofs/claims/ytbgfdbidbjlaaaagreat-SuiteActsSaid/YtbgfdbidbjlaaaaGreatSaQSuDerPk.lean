/-
  Texts of this claim, laid together by a program of mine. No condition beyond what each theorem names.
-/
import Derived.Test.YtbgfdbidbjlaaaaGreatSaSuCall
import Derived.Test.YtbgfdbidbjlaaaaGreatSaQSuCryptPk
import Derived.Deep.LoopGhost
/-
  The document's own suite: Derive. No condition beyond what each theorem names.
-/
namespace Go.Proofs.YtbgfdbidbjlaaaaGreat.Fd
open _root_.Go.Proofs.Tryz
open Go Go.RowKit K
set_option maxRecDepth 100000
set_option maxHeartbeats 4000000
def askOk (pl sl:Nat) (r n:Int):Prop:=mayB pl sl r=true∧0≤n∧n≤256
theorem qDerive_bad {w:World}{c what:Value}{pa sa:Option Addr}{pl pc sl sc:Nat}{r n:Int}(h:¬ askOk pl sl r n):
  Calls prog 32 #[c,what,.slice pa pl pc,.slice sa sl sc,.int .i64 r,.int .i64 n] w fun e w'=>e=.returned (.tuple #[.slice none 0 0,.int .i64 1])∧w=w':=by
 have hmay:=LH (qMay_ok pa sa pl pc sl sc r w);cases hB:mayB pl sl r with
 | false=>
  rw[hB] at hmay;clear h hB;go_enter func32,ntmps32
  go_wp2_with (first|(go_at_call 33;refine hmay.out.mono ?_;rintro e w' ⟨rfl,rfl⟩)|fail)
  go_ret2;exact⟨rfl,rfl⟩
 | true=>
  rw[hB] at hmay
  have h2:n<0∨256<n:=by
   by_cases h1:n<0
   ·exact .inl h1
   ·by_cases h3:256<n
    ·exact .inr h3
    ·exact absurd ⟨hB,by omega,by omega⟩ h
  clear h hB;rcases h2 with h2|h2
  ·go_enter func32,ntmps32
   go_wp2_with (first|(go_at_call 33;refine hmay.out.mono ?_;rintro e w' ⟨rfl,rfl⟩)|fail)
   go_ret2;exact⟨rfl,rfl⟩
  ·have h3:¬ n<0:=by omega
   go_enter func32,ntmps32
   go_wp2_with (first|(go_at_call 33;refine hmay.out.mono ?_;rintro e w' ⟨rfl,rfl⟩)|fail)
   go_ret2;exact⟨rfl,rfl⟩
theorem qSuDerive_ideal {w:World}{n0 s hp xp tp c:Nat}(hs:QSuiteAt w n0 s hp xp tp (.pointer (some ⟨c,0,none⟩))) (what:ByteArray) (hw:what.size≤1000) (pv sv:Value) (r n:Int) (Q:Ending→World→Prop)
  (h:Calls prog 32 #[.pointer (some ⟨c,0,none⟩),.string (what++⟨#[32,107,101,121]⟩),pv,sv,.int .i64 r,.int .i64 n] w (Two Q)):
  Calls prog 13 #[.pointer (some ⟨s,0,none⟩),.string what,pv,sv,.int .i64 r,.int .i64 n] w Q:=by
 have c3:w.cell? ⟨s,3,none⟩=some (.pointer (some ⟨c,0,none⟩)):=cell_of hs.box 3;replace h:=LH h;clear hs;go_enter func13,ntmps13
 go_wp2_with fail
 refine h.out.mono ?_;rintro e w' ⟨a,n,cp,er,rfl,hQ⟩;replace hQ:=LH hQ;clear c3;go_wp2;exact hQ.out
theorem qSuDerive_bad {w:World}{n0 s hp xp tp:Nat}(hs:QSuiteAt w n0 s hp xp tp (.pointer none)){what:Value}{pa sa:Option Addr}{pl pc sl sc:Nat}{r n:Int}(h:¬ askOk pl sl r n):
  Calls prog 13 #[.pointer (some ⟨s,0,none⟩),what,.slice pa pl pc,.slice sa sl sc,.int .i64 r,.int .i64 n] w fun e w'=>e=.returned (.tuple #[.slice none 0 0,.int .i64 1])∧w=w':=by
 have c3:w.cell? ⟨s,3,none⟩=some (.pointer none):=cell_of hs.box 3;have hmay:=LH (qMay_ok pa sa pl pc sl sc r w);clear hs;cases hB:mayB pl sl r with
 | false=>
  rw[hB] at hmay;clear h hB;go_enter func13,ntmps13
  go_wp2_with (first|(go_at_call 33;refine hmay.out.mono ?_;rintro e w' ⟨rfl,rfl⟩)|fail)
  go_ret2;exact⟨rfl,rfl⟩
 | true=>
  rw[hB] at hmay
  have h2:n<0∨256<n:=by
   by_cases h1:n<0
   ·exact .inl h1
   ·by_cases h3:256<n
    ·exact .inr h3
    ·exact absurd ⟨hB,by omega,by omega⟩ h
  clear h hB;rcases h2 with h2|h2
  ·go_enter func13,ntmps13
   go_wp2_with (first|(go_at_call 33;refine hmay.out.mono ?_;rintro e w' ⟨rfl,rfl⟩)|fail)
   go_ret2;exact⟨rfl,rfl⟩
  ·have h3:¬ n<0:=by omega
   go_enter func13,ntmps13
   go_wp2_with (first|(go_at_call 33;refine hmay.out.mono ?_;rintro e w' ⟨rfl,rfl⟩)|fail)
   go_ret2;exact⟨rfl,rfl⟩
theorem qSuDerive_real {w:World}{n0 s hp xp tp:Nat}(hs:QSuiteAt w n0 s hp xp tp (.pointer none)){S S':Nat→Prop}{pw sv:Value}{pass salt:List UInt8}(hp':Bytes w S pw pass) (hs':Bytes w S' sv salt) (what:Value) (r n:Nat) (hm:mayB pass.length salt.length r=true) (hn:n≤256):
  Calls prog 13 #[.pointer (some ⟨s,0,none⟩),what,pw,sv,.int .i64 r,.int .i64 n] w fun e w'=>∃ v,e=.returned (.tuple #[v,.int .i64 0])∧Bytes w' (fun g=>w.heap.size≤g) v (keyL (keyK pass) salt r n)∧Below w.heap.size w w':=by
 have c3:w.cell? ⟨s,3,none⟩=some (.pointer none):=cell_of hs.box 3;have c0:w.cell? ⟨s,0,none⟩=some (.pointer (some ⟨hp,0,none⟩)):=cell_of hs.box 0
 have hb:pass.length≤128∧salt.length≤64∧1≤r∧r≤10000:=by
  simp[mayB] at hm;omega
 have hk:=LH (qKey_ok hs.hash hp' hs' (by omega) (by omega) r n (by omega) (by omega) hn);obtain⟨pa,pc,rfl,_,_⟩:=hp'.shape;obtain⟨sa,sc,rfl,_,_⟩:=hs'.shape;have hmay:=LH (qMay_ok pa sa pass.length pc salt.length sc r w);rw[hm] at hmay;have hnI:(n:Int)≤256:=by omega
 clear hm hs hb;replace hp':=LH hp';replace hs':=LH hs';go_enter func13,ntmps13
 go_wp2_with (first|(go_at_call 33;refine hmay.out.mono ?_;rintro e w' ⟨rfl,rfl⟩)|fail)
 refine hk.out.mono ?_;rintro e w' ⟨v,rfl,h1,h2⟩;replace h1:=LH h1;replace h2:=LH h2;clear c3 c0 hk hmay;go_wp2;go_ret2;exact⟨v,rfl,h1.out,h2.out⟩
end Go.Proofs.YtbgfdbidbjlaaaaGreat.Fd
/-
  Acts that came in; few. No condition beyond what each theorem names.
-/
namespace Go.Proofs.YtbgfdbidbjlaaaaGreat.Fd
open _root_.Go.Proofs.Tryz
open Go Go.RowKit K
set_option maxRecDepth 100000
set_option maxHeartbeats 8000000
structure ActD where
 kind:Int
 what:ByteArray
 key:List UInt8
 unit:Int
 data:List UInt8
 num:Int
structure ActRow (w:World) (g o:Nat) (x:ActD) (kv dv:Value):Prop where
 c0:w.cell? ⟨g,o,none⟩=some (.int .i64 x.kind)
 c1:w.cell? ⟨g,o+1,none⟩=some (.string x.what)
 c2:w.cell? ⟨g,o+2,none⟩=some kv
 c3:w.cell? ⟨g,o+3,none⟩=some (.int .i64 x.unit)
 c4:w.cell? ⟨g,o+4,none⟩=some dv
 c5:w.cell? ⟨g,o+5,none⟩=some (.int .i64 x.num)
 key:Bytes w (fun _=>True) kv x.key
 data:Bytes w (fun _=>True) dv x.data
 long:x.what.size≤maxLen
 ur:-9223372036854775808≤x.unit∧x.unit≤9223372036854775807
def ActsAt (w:World) (a:Option Addr) (cap:Nat) (L:List ActD):Prop:=L.length≤cap∧cap≤maxLen∧∀ j x,L[j]?=some x→∃ g off kv dv,a=some ⟨g,off,none⟩∧g<w.heap.size∧ActRow w g (off+j*6) x kv dv
theorem ActsAt.keep {w w':World}{a:Option Addr}{cap:Nat}{L:List ActD}(h:ActsAt w a cap L) (hb:Below w.heap.size w w'):ActsAt w' a cap L:=by
 refine⟨h.1,h.2.1,fun j x hj=>?_⟩;obtain⟨g,off,kv,dv,h1,h2,h3⟩:=h.2.2 j x hj;have hc:∀ i,w'.cell? ⟨g,i,none⟩=w.cell? ⟨g,i,none⟩:=fun i=>World.cell?_of_block (hb.block g h2)
 exact⟨g,off,kv,dv,h1,Nat.lt_of_lt_of_le h2 hb.size,⟨(hc _).trans h3.c0,(hc _).trans h3.c1,(hc _).trans h3.c2,(hc _).trans h3.c3,(hc _).trans h3.c4,(hc _).trans h3.c5,
  Cells.keep h3.key hb.size (fun g _ hg=>hb.block g hg),Cells.keep h3.data hb.size (fun g _ hg=>hb.block g hg),h3.long,h3.ur⟩⟩
def fewP (x:ActD):Prop:=x.what.size≤50∧x.key.length≤200∧x.data.length≤300∧¬ (x.kind=3∧10<x.unit∧x.unit≤10000)
theorem take_one {α:Type}{l:List α}{i:Nat}{q:α}(h:l[i]?=some q):l.take (i+1)=l.take i++[q]:=by
 obtain⟨hl,e⟩:=List.getElem?_eq_some_iff.1 h;rw[List.take_succ_eq_append_getElem hl,e]
theorem few_ok {w:World}{a:Option Addr}{cap:Nat}{L:List ActD}(h:ActsAt w a cap L):
  Calls prog 4 #[.slice a L.length cap] w fun e w'=>∃ b:Bool,e=.returned (.bool b)∧w=w'∧(b=true→L.length≤15∧∀ x ∈ L.take 30,fewP x):=by
 obtain⟨hl1,hl2,hrow⟩:=h;unfold maxLen at hl2;obtain⟨N,hN⟩:∃ N,N=L.length:=⟨_,rfl⟩;rw[← hN] at hl1 ⊢;replace hN:=LH hN;replace hrow:=LH hrow;go_enter func4,ntmps4;go_wp2
 go_loopg [3] 30 (fun g i wr=>∃ j:Nat,j+g=30∧j≤N∧i=.int .i64 j∧wr=w∧Hid (∀ x ∈ L.take j,fewP x))
 case atStart=>exact⟨0,by omega,by omega,rfl,rfl,by simp[Hid]⟩
 case round=>
  obtain⟨j,hjg,hjN,rfl,rfl,hf⟩:=hrel;by_cases hlt:j<N
  ·by_cases h30:j<30
   ·obtain⟨g1,rfl⟩:∃ j,gk=j+1:=⟨gk - 1,by omega⟩;obtain⟨x,hx⟩:∃ x,L[j]?=some x:=⟨L[j]'(by have:=hN.out;omega),List.getElem?_eq_getElem _⟩;obtain⟨g,off,kv,dv,rfl,hgl,hr⟩:=hrow.out j x hx;obtain⟨ka,kc,rfl,hk1,hk2⟩:=hr.key.shape;obtain⟨da,dc,rfl,hd1,hd2⟩:=hr.data.shape;have c0:=hr.c0;have c1:=hr.c1;have c2:=hr.c2;have c3:=hr.c3;have c4:=hr.c4;obtain⟨WN,hWN⟩:∃ X,X=x.what.size:=⟨_,rfl⟩;obtain⟨KN,hKN⟩:∃ X,X=x.key.length:=⟨_,rfl⟩;obtain⟨DN,hDN⟩:∃ X,X=x.data.length:=⟨_,rfl⟩;rw[← hKN] at c2 hk1;rw[← hDN] at c4 hd1;have hws:∀ z:World,True:=fun _=>trivial
    replace hr:=LH hr;replace hx:=LH hx;replace hKN:=LH hKN;replace hDN:=LH hDN;have hjI:(j:Int)<(N:Int):=by omega
    by_cases b1:x.what.size≤50
    ·have b1':(x.what.size:Int)≤50:=by omega
     by_cases b2:KN≤200
     ·have b2':(KN:Int)≤200:=by omega
      by_cases b3:DN≤300
      ·have b3':(DN:Int)≤300:=by omega
       by_cases b4:x.kind=3
       ·by_cases b5:10<x.unit
        ·by_cases b6:x.unit≤10000
         ·go_wp2;go_ret;exact⟨false,rfl,rfl,fun h=>by cases h⟩
         ·have hf':=LH (show ∀ y ∈ L.take (j+1),fewP y from by
           intro y hy;rw[take_one hx.out] at hy;rcases List.mem_append.1 hy with hy|hy
           ·exact hf.out y hy
           ·simp only[List.mem_singleton] at hy;subst hy;exact⟨b1,by rw[← hKN.out];exact b2,by rw[← hDN.out];exact b3,fun h=>b6 h.2.2⟩)
          clear hf;go_wp2;go_roundg g1
          case measure=>omega
          case rel=>exact⟨j+1,by omega,by omega,by go_num,rfl,hf'.out⟩
        ·have hf':=LH (show ∀ y ∈ L.take (j+1),fewP y from by
          intro y hy;rw[take_one hx.out] at hy;rcases List.mem_append.1 hy with hy|hy
          ·exact hf.out y hy
          ·simp only[List.mem_singleton] at hy;subst hy;exact⟨b1,by rw[← hKN.out];exact b2,by rw[← hDN.out];exact b3,fun h=>b5 h.2.1⟩)
         clear hf;go_wp2;go_roundg g1
         case measure=>omega
         case rel=>exact⟨j+1,by omega,by omega,by go_num,rfl,hf'.out⟩
       ·have hf':=LH (show ∀ y ∈ L.take (j+1),fewP y from by
         intro y hy;rw[take_one hx.out] at hy;rcases List.mem_append.1 hy with hy|hy
         ·exact hf.out y hy
         ·simp only[List.mem_singleton] at hy;subst hy;exact⟨b1,by rw[← hKN.out];exact b2,by rw[← hDN.out];exact b3,fun h=>b4 h.1⟩)
        clear hf;go_wp2;go_roundg g1
        case measure=>omega
        case rel=>exact⟨j+1,by omega,by omega,by go_num,rfl,hf'.out⟩
      ·have b3':(300:Int)<(DN:Int):=by omega
       go_wp2;go_ret;exact⟨false,rfl,rfl,fun h=>by cases h⟩
     ·have b2':(200:Int)<(KN:Int):=by omega
      go_wp2;go_ret;exact⟨false,rfl,rfl,fun h=>by cases h⟩
    ·have b1':(50:Int)<(x.what.size:Int):=by omega
     go_wp2;go_ret;exact⟨false,rfl,rfl,fun h=>by cases h⟩
   ·have hj30:j=30:=by omega
    subst hj30;go_wp2;go_ret
    exact⟨_,rfl,rfl,fun h=>by
     have h1:(N:Int)≤15:=of_decide_eq_true h;omega⟩
  ·obtain rfl:j=N:=by omega
   go_wp2;go_ret;refine⟨_,rfl,rfl,fun h=>?_⟩;have h1:(j:Int)≤15:=of_decide_eq_true h;refine⟨by omega,fun y hy=>hf.out y ?_⟩;rw[List.take_of_length_le (by have:=hN.out;omega)] at hy ⊢;exact hy
end Go.Proofs.YtbgfdbidbjlaaaaGreat.Fd
