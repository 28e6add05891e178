/-
  Texts of this claim, laid together by a program of mine. No condition beyond what each theorem names.
-/
import Derived.Test.YtbgfdbidbjlaaaaGreatSaQNew
import Derived.Test.YtbgfdbidbjlaaaaGreatSaQCryptD
import Derived.Test.YtbgfdbidbjlaaaaGreatSaQCryptHPk
/-
  The document's own suite: Crypt. No condition beyond what each theorem names.
-/
namespace Go.Proofs.YtbgfdbidbjlaaaaGreat.Fd
open _root_.Go.Proofs.Tryz
open Go Go.RowKit K
set_option maxRecDepth 100000
set_option maxHeartbeats 4000000
theorem qSuCrypt_bad {w:World}{s what ba:Value}{ka da:Option Addr}{kl kc dl dc:Nat}{z:Int}(hd:dl≤1000000) (h:¬ (keyB kl z=true∧dl % 16=0∧dl≤4096)):
  Calls prog 10 #[s,what,.slice ka kl kc,.int .i64 z,.slice da dl dc,ba] w fun e w'=>e=.returned (.tuple #[.slice none 0 0,.int .i64 1])∧w=w':=by
 have hmay:=LH (qMayXts_ok ka kl kc z w);have hm1:(dl:Int).tmod 16=((dl % 16:Nat):Int):=by rw[Int.tmod_eq_emod_of_nonneg (by omega)];omega
 cases hB:keyB kl z with
 | false=>
  rw[hB] at hmay;clear h;go_enter func10,ntmps10
  go_wp2_with (first|(go_at_call 25;refine hmay.out.mono ?_;rintro e w' ⟨rfl,rfl⟩)|fail)
  go_ret2;exact⟨rfl,rfl⟩
 | true=>
  rw[hB] at hmay;by_cases h16:dl % 16=0
  ·have hm:¬ dl≤4096:=fun hm=>h ⟨hB,h16,hm⟩
   clear h;rw[h16] at hm1;have hmm:decide ((4096:Int)<(dl:Int))=true:=by simp;omega
   go_enter func10,ntmps10
   go_wp2_with (first|(go_at_call 25;refine hmay.out.mono ?_;rintro e w' ⟨rfl,rfl⟩)|fail)
   go_ret2;exact⟨rfl,rfl⟩
  ·clear h;go_enter func10,ntmps10
   go_wp2_with (first|(go_at_call 25;refine hmay.out.mono ?_;rintro e w' ⟨rfl,rfl⟩)|fail)
   go_ret2;exact⟨rfl,rfl⟩
theorem qSuCrypt_real {w:World}{n s hp xp tp:Nat}{what ba:Value}{ka da:Option Addr}{kl kc dl dc:Nat}{z:Int}(hs:QSuiteAt w n s hp xp tp (.pointer none)) (hk:keyB kl z=true) (h16:dl % 16=0) (hd:dl≤4096) (Q:Value→World→Prop)
  (h:Calls prog 26 #[.pointer (some ⟨xp,0,none⟩),.slice ka kl kc,.int .i64 z,.slice da dl dc,ba] w fun e w'=>∃ v,e=.returned (.tuple #[v,.bool true])∧Q v w'):
  Calls prog 10 #[.pointer (some ⟨s,0,none⟩),what,.slice ka kl kc,.int .i64 z,.slice da dl dc,ba] w fun e w'=>∃ v,e=.returned (.tuple #[v,.int .i64 0])∧Q v w':=by
 have hmay:=LH (qMayXts_ok ka kl kc z w);rw[hk] at hmay;have hm1:(dl:Int).tmod 16=0:=by rw[Int.tmod_eq_emod_of_nonneg (by omega)];omega
 have hm2:(dl:Int) % 16=0:=by omega
 have hmm:decide ((4096:Int)<(dl:Int))=false:=by simp;omega
 have c1:w.cell? ⟨s,1,none⟩=some (.pointer (some ⟨xp,0,none⟩)):=cell_of hs.box 1;have c3:w.cell? ⟨s,3,none⟩=some (.pointer none):=cell_of hs.box 3;replace h:=LH h;clear hs;go_enter func10,ntmps10
 go_wp2_with (first|(go_at_call 25;refine hmay.out.mono ?_;rintro e w' ⟨rfl,rfl⟩)|fail)
 refine h.out.mono ?_;rintro e w1 ⟨v,rfl,hQ⟩;replace hQ:=LH hQ;clear c1 c3;go_wp2;go_ret2;exact⟨v,rfl,hQ.out⟩
end Go.Proofs.YtbgfdbidbjlaaaaGreat.Fd
/-
  A cipher of chance, block after block, as plain lists. No condition beyond what each theorem names.
-/
namespace Go.Proofs.YtbgfdbidbjlaaaaGreat.Fd
open Go Go.RowKit K
def sweepM (b:List UInt8) (k:ByteArray) (u:Nat) (back:Bool) (data:List UInt8) (a:Nat) (prs:List PR):Nat→Option (List UInt8)×Nat×List PR
 | 0=>(some [],a,prs)
 | i+1=>match sweepM b k u back data a prs i with
  | (none,r)=>(none,r)
  | (some out,a',prs')=>match cryptM b a' prs' (k,u,i) (blk data i) back with
   | (some y,r)=>(some (out++y),r)
   | (none,r)=>(none,r)
section
variable {b:List UInt8}{k:ByteArray}{u:Nat}{back:Bool}{data:List UInt8}{a a':Nat}{prs prs':List PR}
theorem sweepM_next {i:Nat}{out y:List UInt8}{r:Nat×List PR}(h:sweepM b k u back data a prs i=(some out,a',prs')) (h2:cryptM b a' prs' (k,u,i) (blk data i) back=(some y,r)):sweepM b k u back data a prs (i+1)=(some (out++y),r):=by
 rw[sweepM,h];dsimp only;rw[h2]
theorem sweepM_stop {i:Nat}{out:List UInt8}{r:Nat×List PR}(h:sweepM b k u back data a prs i=(some out,a',prs')) (h2:cryptM b a' prs' (k,u,i) (blk data i) back=(none,r)):sweepM b k u back data a prs (i+1)=(none,r):=by
 rw[sweepM,h];dsimp only;rw[h2]
theorem sweepM_stuck {i:Nat}{r:Nat×List PR}(h:sweepM b k u back data a prs i=(none,r)):∀ j,i≤j→sweepM b k u back data a prs j=(none,r):=by
 intro j hj
 induction j with
 | zero=>
  obtain rfl:i=0:=by omega
  exact h
 | succ j ih=>
  rcases Nat.lt_or_ge j i with h1|h1
  ·obtain rfl:i=j+1:=by omega
   exact h
  ·rw[sweepM,ih h1]
theorem lookM_length {k:PKey}{x y:List UInt8}(hp:PrsOk prs) (h:lookM prs k x back=some y):y.length=16:=by
 obtain⟨q,hq,he⟩:=List.exists_of_findSome?_eq_some h;have hf:=(hp.fits q hq).2;unfold hit at he;split at he
 ·split at he
  ·split at he
   ·rw[← Option.some.inj he];exact hf.1
   ·exact absurd he (by simp)
  ·split at he
   ·rw[← Option.some.inj he];exact hf.2
   ·exact absurd he (by simp)
 ·exact absurd he (by simp)
theorem cryptM_length {k:PKey}{x y:List UInt8}{r:Nat×List PR}(hp:PrsOk prs) (h:cryptM b a prs k x back=(some y,r)):y.length=16:=by
 cases hl:lookM prs k x back with
 | some z=>
  rw[cryptM_had hl] at h;obtain⟨h1,_⟩:=Prod.mk.inj h;rw[← Option.some.inj h1];exact lookM_length hp hl
 | none=>
  obtain⟨z,a'',hz⟩:∃ z a'',pickB b (usedM prs k back) b.length a=(z,a''):=⟨_,_,rfl⟩;cases z with
  | none=>
   rw[cryptM_miss hl hz] at h;exact absurd (Prod.mk.inj h).1 (by simp)
  | some z=>
   rw[cryptM_hit hl hz] at h;rw[← Option.some.inj (Prod.mk.inj h).1];exact (pickB_some (congrArg Prod.fst hz)).1
end
end Go.Proofs.YtbgfdbidbjlaaaaGreat.Fd
/-
  The document's own suite: Crypt of the ideal kind: what stands from block to block. No condition beyond what each theorem names.
-/
namespace Go.Proofs.YtbgfdbidbjlaaaaGreat.Fd
open _root_.Go.Proofs.Tryz
open Go Go.RowKit K
theorem qCrypt_ok {w:World}{F:Nat→Prop}{c tp:Nat}{bv lv pv kv:Value}{b:List UInt8}{a k:Nat}{prs:List PR}{ag:Nat}(h:QIdeal w F c tp bv lv pv kv b a k prs ag) (what key:ByteArray) (un im:Nat) (hk:PKey.fits (key,un,im)){x:List UInt8}(hx:x.length=16) (back:Bool)
  {R:Option (List UInt8)×Nat×List PR}(hR:R=cryptM b a prs (key,un,im) x back):
  Calls prog 27 #[.pointer (some ⟨c,0,none⟩),.string what,.string key,.int .i64 un,.int .i64 im,blkV x,.bool back] w fun e w'=>e=ansV R.1∧
   (∃ lv' pv' k' ag',QIdeal w' (fun g=>F g∨w.heap.size≤g) c tp bv lv' pv' kv b R.2.1 k' R.2.2 ag')∧Chg (fun g=>g=c∨g=tp) w w':=by
 cases back with
 | false=>exact qCryptE_ok h what key un im hk hx hR
 | true=>exact qCryptD_ok h what key un im hk hx hR
structure QSw (w:World) (F:Nat→Prop) (n c tp:Nat) (bv kv:Value) (b:List UInt8) (a:Nat) (prs:List PR) (ov:Value) (out:List UInt8) (y:World):Prop where
 st:∃ (F':Nat→Prop) (lv pv:Value) (k ag:Nat),QIdeal y F' c tp bv lv pv kv b a k prs ag∧(∀ g,F' g→F g∧g<n∨n≤g∧g<y.heap.size)∧∀ g,ov.ownBlock=some g→¬ F' g
 own:y.ownsRow n 5 1 ov out.length (u8s out)
 chg:Chg (fun g=>g=c∨g=tp) w y
 cn:c<n
 tn:tp<n
 wn:n=w.heap.size
section
variable {w y z:World}{F:Nat→Prop}{n c tp:Nat}{bv kv ov:Value}{b out:List UInt8}{a:Nat}{prs:List PR}
theorem QSw.size (s:QSw w F n c tp bv kv b a prs ov out y):n≤y.heap.size:=by have:=s.chg.size;have:=s.wn;omega
theorem QSw.start {lv pv:Value}{k ag:Nat}(h:QIdeal w F c tp bv lv pv kv b a k prs ag):QSw w F w.heap.size c tp bv kv b a prs (.slice none 0 0) [] w:=
 ⟨⟨fun g=>F g∧g<w.heap.size,lv,pv,k,ag,h.mono (fun g hg hF=>⟨hF,hg⟩) (fun e=>h.far e.1) (fun e=>h.tape.far e.1),fun g hg=>.inl hg,fun g hg=>by simp[Value.ownBlock] at hg⟩,World.ownsRow_nil _ _ _ _,Chg.refl _ _,heap_lt h.box,heap_lt h.tape.box,rfl⟩
theorem QSw.after (s:QSw w F n c tp bv kv b a prs ov out y) (h:Chg No y z):QSw w F n c tp bv kv b a prs ov out z:=by
 obtain⟨F',lv,pv,k,ag,h1,h2,h3⟩:=s.st;have hz:=h.size;refine⟨⟨F',lv,pv,k,ag,h1.chg h,fun g hg=>?_,h3⟩,owns_keep s.own (fun g hg=>h.block g (s.own.lt g hg).2 id),s.chg.then h (fun _ _ e=>e.elim),s.cn,s.tn,s.wn⟩;rcases h2 g hg with e|e
 ·exact .inl e
 ·exact .inr ⟨e.1,by omega⟩
theorem QSw.call (s:QSw w F n c tp bv kv b a prs ov out y):∃ (F':Nat→Prop) (lv pv:Value) (k ag:Nat),QIdeal y F' c tp bv lv pv kv b a k prs ag∧
  ∀ z lv' pv' k' ag' a' prs',QIdeal z (fun g=>F' g∨y.heap.size≤g) c tp bv lv' pv' kv b a' k' prs' ag'→Chg (fun g=>g=c∨g=tp) y z→QSw w F n c tp bv kv b a' prs' ov out z:=by
 obtain⟨F',lv,pv,k,ag,h1,h2,h3⟩:=s.st;have hcn:=s.cn;have htn:=s.tn;have hsz:=s.size;refine⟨F',lv,pv,k,ag,h1,fun z lv' pv' k' ag' a' prs' hz hC=>⟨⟨fun g=>F' g∨y.heap.size≤g∧g<z.heap.size,lv',pv',k',ag',hz.mono (fun g hg hF=>?_) (fun e=>hz.far ?_) (fun e=>hz.tape.far ?_),fun g hg=>?_,fun g hg e=>?_⟩,owns_keep s.own (fun g hg=>hC.block g (s.own.lt g hg).2 (fun e=>?_)),s.chg.then hC (fun _ _ e=>e),s.cn,s.tn,s.wn⟩⟩
 ·rcases hF with e|e
  ·exact .inl e
  ·exact .inr ⟨e,hg⟩
 ·rcases e with e|e
  ·exact .inl e
  ·exact .inr e.1
 ·rcases e with e|e
  ·exact .inl e
  ·exact .inr e.1
 ·have:=hC.size;rcases hg with e|e
  ·rcases h2 g e with e|e
   ·exact .inl e
   ·exact .inr ⟨e.1,by omega⟩
  ·exact .inr ⟨by omega,e.2⟩
 ·have:=(s.own.lt g hg).2;rcases e with e|e
  ·exact h3 g hg e
  ·omega
 ·have:=(s.own.lt g hg).1;rcases e with e|e<;>omega
theorem QSw.push (s:QSw w F n c tp bv kv b a prs ov out y){v':Value}{m:List UInt8}(ho:z.ownsRow n 5 1 v' (out++m).length (u8s (out++m))) (hC:Chg (fun g=>ov.ownBlock=some g) y z) (hv:v'.ownBlock=ov.ownBlock∨∃ g,v'.ownBlock=some g∧y.heap.size≤g):QSw w F n c tp bv kv b a prs v' (out++m) z:=by
 obtain⟨F',lv,pv,k,ag,h1,h2,h3⟩:=s.st;have hcn:=s.cn;have htn:=s.tn;have hsz:=s.size;have hwn:=s.wn;have hz:=hC.size;refine⟨⟨F',lv,pv,k,ag,h1.keep hz (fun g hg hl=>hC.block g hl (fun e=>?_)),fun g hg=>?_,fun g hg e=>?_⟩,ho,s.chg.then hC (fun i hi e=>?_),s.cn,s.tn,s.wn⟩
 ·have:=(s.own.lt g e).1;rcases hg with h|h|h
  ·omega
  ·omega
  ·exact h3 g e h
 ·rcases h2 g hg with e|e
  ·exact .inl e
  ·exact .inr ⟨e.1,by omega⟩
 ·rcases hv with h|⟨g',h,h'⟩
  ·exact h3 g (h ▸ hg) e
  ·obtain rfl:g'=g:=Option.some.inj (h.symm.trans hg);rcases h2 _ e with h4|h4<;>omega
 ·have:=(s.own.lt i e).1;omega
end
theorem Cells.drop {w:World}{S:Nat→Prop}{v:Value}{n sz:Nat}{xs:List Value}(h:Cells w S v n sz xs) (hx:0<n→∃ s,xs[0]?=some (.string s)){o:Nat}{t:TypeId}{l:List UInt8}(ho:Arr w o t l):Cells w (fun g=>S g∧g≠o) v n sz xs:=by
 obtain⟨h1,a,cap,h2,h3,h4,h5,h6⟩:=h;refine⟨h1,a,cap,h2,h3,h4,h5,?_⟩;rcases h6 with h6|⟨g,off,e1,e2,e3,e4⟩
 ·exact .inl h6
 ·rcases Nat.eq_zero_or_pos n with hn|hn
  ·exact .inl hn
  ·refine .inr ⟨g,off,e1,⟨e2,?_⟩,e3,e4⟩;rintro rfl;obtain⟨s,hs⟩:=hx hn;have h7:=e4 0 _ hs;rw[cell_of ho] at h7;simp only[u8s,List.getElem?_toArray,List.getElem?_map,Option.map_eq_some_iff] at h7;obtain⟨x,_,hx⟩:=h7;exact absurd hx (by simp[u8])
theorem Bytes.drop {w w0:World}{S S0:Nat→Prop}{v:Value}{l:List UInt8}(h:Bytes w S v l) (h0:Bytes w0 S0 v l){o:Nat}(ho:w0.heap.size≤o):Bytes w (fun g=>S g∧g≠o) v l:=by
 obtain⟨h1,a,cap,h2,h3,h4,h5,h6⟩:=h;obtain⟨_,a',cap',k2,_,_,_,k6⟩:=h0;refine⟨h1,a,cap,h2,h3,h4,h5,?_⟩;rcases h6 with h6|⟨g,off,e1,e2,e3,e4⟩
 ·exact .inl h6
 ·rcases k6 with k6|⟨g',off',f1,f2,f3,f4⟩
  ·exact .inl k6
  ·refine .inr ⟨g,off,e1,⟨e2,?_⟩,e3,e4⟩;rw[h2] at k2;cases k2
   rw[e1] at f1;cases f1
   omega
theorem prs_first {prs:List PR}(h:0<prs.length):∃ s,(prs.flatMap prCells)[0]?=some (.string s):=by
 cases prs with
 | nil=>simp at h
 | cons q l=>exact⟨q.1.1,rfl⟩
theorem QIdeal.drop {w w0:World}{F F0:Nat→Prop}{c tp:Nat}{bv lv pv kv:Value}{b:List UInt8}{a k:Nat}{prs:List PR}{ag:Nat}(h:QIdeal w F c tp bv lv pv kv b a k prs ag) (h0:Bytes w0 F0 bv b){o:Nat}(hlt:w0.heap.size≤o){t:TypeId}{l:List UInt8}(ho:Arr w o t l):
  QIdeal w (fun g=>F g∧g≠o) c tp bv lv pv kv b a k prs ag:=by
 obtain⟨xs,x1,x2,x3⟩:=h.tape.takes;exact⟨h.box,⟨h.tape.box,Bytes.drop h.tape.bytes h0 hlt,h.tape.few,h.tape.within,⟨xs,Cells.drop x1 x3 ho,x2,x3⟩,h.tape.count,fun e=>h.tape.far e.1⟩,Cells.drop h.row prs_first ho,h.ok,h.few,h.again,fun e=>h.far e.1,h.apart⟩
theorem QSw.store {w y w0:World}{F F0:Nat→Prop}{n c tp:Nat}{bv kv ov:Value}{b out:List UInt8}{a:Nat}{prs:List PR}(s:QSw w F n c tp bv kv b a prs ov out y) (h0:Bytes w0 F0 bv b){o:Nat}(hlt:w0.heap.size≤o) (hno:n≤o){l:List UInt8}(ho:Arr y o 73 l) (l':List UInt8):
  QSw w F n c tp bv kv b a prs ov out (y.setRow o (u8s l').toArray):=by
 obtain⟨F',lv,pv,k,ag,h1,h2,h3⟩:=s.st;have hcn:=s.cn;have htn:=s.tn;have hwn:=s.wn;have hk:∀ g,g≠o→(y.setRow o (u8s l').toArray).heap[g]?=y.heap[g]?:=fun g hg=>setRow_other _ _ _ _ hg
 have hov:ov.ownBlock≠some o:=apart_type s.own ho (by decide);refine⟨⟨_,lv,pv,k,ag,(h1.drop h0 hlt ho).keep (by simp) (fun g hg _=>hk g ?_),fun g hg=>?_,fun g hg e=>h3 g hg e.1⟩,owns_keep s.own (fun g hg=>hk g (fun e=>hov (e ▸ hg))),s.chg.setRow (fun h=>by omega) _,s.cn,s.tn,s.wn⟩
 ·rcases hg with rfl|rfl|e
  ·omega
  ·omega
  ·exact e.2
 ·rcases h2 g hg.1 with e|e
  ·exact .inl e
  ·exact .inr ⟨e.1,by simpa using e.2⟩
section
variable {w y z:World}{F:Nat→Prop}{n c tp:Nat}{bv kv ov:Value}{b out:List UInt8}{a:Nat}{prs:List PR}
theorem QSw.fin {lv pv:Value}{a0 k ag:Nat}{prs0:List PR}(s:QSw w F n c tp bv kv b a prs ov out y) (h:QIdeal w F c tp bv lv pv kv b a0 k prs0 ag):(∃ lv' pv' k' ag',QIdeal y (fun g=>F g∨w.heap.size≤g) c tp bv lv' pv' kv b a k' prs ag')∧y.ownsRow w.heap.size 5 1 ov out.length (u8s out)∧Chg (fun g=>g=c∨g=tp) w y:=by
 obtain⟨F',lv',pv',k',ag',h1,h2,_⟩:=s.st;have hcn:=s.cn;have htn:=s.tn;have hwn:=s.wn;refine⟨⟨lv',pv',k',ag',h1.mono (fun g _ hF=>?_) (fun e=>?_) (fun e=>?_)⟩,hwn ▸ s.own,s.chg⟩
 ·rcases h2 g hF with e|e
  ·exact .inl e.1
  ·exact .inr (by omega)
 ·rcases e with e|e
  ·exact h.far e
  ·omega
 ·rcases e with e|e
  ·exact h.tape.far e
  ·omega
end
end Go.Proofs.YtbgfdbidbjlaaaaGreat.Fd
/-
  The document's own suite: Crypt of the ideal kind. No condition beyond what each theorem names.
-/
namespace Go.Proofs.YtbgfdbidbjlaaaaGreat.Fd
open _root_.Go.Proofs.Tryz
open Go Go.RowKit K
set_option maxRecDepth 100000
set_option maxHeartbeats 16000000
def SweptV (w:World) (o:Option (List UInt8)) (e:Ending) (w':World):Prop:=match o with
 | none=>e=.returned (.tuple #[.slice none 0 0,.int .i64 9])
 | some out=>∃ v,e=.returned (.tuple #[v,.int .i64 0])∧w'.ownsRow w.heap.size 5 1 v out.length (u8s out)
theorem qSuCrypt_ideal {w:World}{F S S':Nat→Prop}{n0 s hp xp tp c:Nat}{kv' dv bv lv pv kv:Value}{key data b:List UInt8}{a k ag:Nat}{prs:List PR}(hs:QSuiteAt w n0 s hp xp tp (.pointer (some ⟨c,0,none⟩))) (h:QIdeal w F c tp bv lv pv kv b a k prs ag)
  (hb:Bytes w S kv' key) (unit:Nat) (hk:keyOk key.length unit) (hd:Bytes w S' dv data) (h16:data.length % 16=0) (hmost:data.length≤4096) (hsc:s≠c∧s≠tp) (hSc:∀ g,S g→g≠c∧g≠tp) (hSd:∀ g,S' g→g≠c∧g≠tp) (what:ByteArray) (back:Bool)
  {R:Option (List UInt8)×Nat×List PR}(hR:R=sweepM b ⟨key.toArray⟩ unit back data a prs (data.length / 16)):
  Calls prog 10 #[.pointer (some ⟨s,0,none⟩),.string what,kv',.int .i64 unit,dv,.bool back] w fun e w'=>SweptV w R.1 e w'∧
   (∃ lv' pv' k' ag',QIdeal w' (fun g=>F g∨w.heap.size≤g) c tp bv lv' pv' kv b R.2.1 k' R.2.2 ag')∧Chg (fun g=>g=c∨g=tp) w w':=by
 obtain⟨da,dcap,rfl,hdc1,hdc2⟩:=hd.shape;unfold maxLen at hdc2;obtain⟨ka,kcap,rfl,hkc1,hkc2⟩:=hb.shape;unfold maxLen at hkc2;have hmay:=qMayXts_ok ka key.length kcap (unit:Int) w;rw[keyB_ok hk] at hmay;have c3:w.cell? ⟨s,3,none⟩=some (.pointer (some ⟨c,0,none⟩)):=cell_of hs.box 3;have hW0:=QSw.start h;obtain⟨n,hn⟩:∃ n,n=w.heap.size:=⟨_,rfl⟩;rw[← hn] at hW0;obtain⟨L,hL⟩:∃ L,L=data.length:=⟨_,rfl⟩;obtain⟨m,hm⟩:∃ m,m=L / 16:=⟨_,rfl⟩;have hm1:(L:Int) / 16=m:=by omega
 have hm2:(L:Int).tdiv 16=m:=by rw[Int.tdiv_eq_ediv_of_nonneg (by omega)];exact hm1
 have hLm:L=16*m:=by omega
 have hm3:m≤256:=by omega
 have hLz:(L:Int) % 16=0:=by omega
 have hLz2:(L:Int).tmod 16=0:=by rw[Int.tmod_eq_emod_of_nonneg (by omega)];exact hLz
 have hL4:L≤4096:=by omega
 have hmm:decide ((4096:Int)<(L:Int))=false:=by simp;omega
 rw[← hL] at hdc1 hR ⊢;rw[← hm] at hR;obtain⟨KL,hKL⟩:∃ L,L=key.length:=⟨_,rfl⟩;rw[← hKL] at hmay hkc1 ⊢;have hKL64:KL≤64:=by have:=(ok_of hk).1;omega
 have hd':Cells w S' (.slice da L dcap) L 1 (u8s data):=by rw[hL];exact hd
 have hb':Bytes w S (.slice ka KL kcap) key:=by rw[hKL];exact hb
 clear hb hd h16 hmost;replace hn:=LH hn;replace hs:=LH hs;replace h:=LH h;replace hk:=LH hk;replace hd':=LH hd';replace hb':=LH hb';replace hL:=LH hL;replace hm:=LH hm;replace hLm:=LH hLm;replace hKL:=LH hKL;replace hR:=LH hR;replace hW0:=LH hW0;replace hSc:=LH hSc;replace hSd:=LH hSd;replace hmay:=LH hmay;go_enter func10,ntmps10
 go_wp2_with (first|(go_at_call 25;refine hmay.out.mono ?_;rintro e w' ⟨rfl,rfl⟩)|fail)
 clear c3 hmay
 go_loopg [16,17,18,19,20,21] m (fun g o i _ _ _ _ wr=>∃ (j:Nat) (ov:Value) (out:List UInt8) (a1:Nat) (prs1:List PR),j+g=m∧i=.int .i64 j∧ov=o∧Hid (QSw w F n c tp bv kv b a1 prs1 ov out wr)∧Hid (sweepM b ⟨key.toArray⟩ unit back data a prs j=(some out,a1,prs1))∧Hid (out.length=16*j))
 case atStart=>exact⟨0,_,[],a,prs,by omega,rfl,rfl,hW0.out,rfl,rfl⟩
 case round=>
  clear hW0;obtain⟨j,ov,out,a1,prs1,hjg,rfl,rfl,hO,hsw,hol⟩:=hrel;by_cases hlt:j<m
  ·obtain⟨g1,rfl⟩:∃ j,gk=j+1:=⟨gk - 1,by omega⟩;obtain⟨gd,doff,dcap',hde,_,_,hSgd,hgd,hdcell⟩:=hd'.out.at (by have:=hLm.out;omega);cases hde
   have hgdc:=hSd.out gd hSgd
   have hDat:∀ (x:World),Chg (fun g=>g=c∨g=tp) w x→∀ i,i<16→x.cell? ⟨gd,doff+(16*j+i),none⟩=some (.int .u8 (data.getD (16*j+i) 0).toNat):=by
    intro x hx i hi;have h:=hdcell (16*j+i) _ (u8s_get data (16*j+i) (by have:=hL.out;have:=hLm.out;omega));rw[World.cell?_of_block (w:=w) (hx.block gd hgd (fun e=>by rcases e with e|e;exact hgdc.1 e;exact hgdc.2 e)),h];have hlt2:16*j+i<data.length:=by have:=hL.out;have:=hLm.out;omega
    simp[List.getD,hlt2]
   obtain⟨BK,hBK⟩:∃ X,X=blk data j:=⟨_,rfl⟩;have hBKl:BK.length=16:=by rw[hBK];exact blk_length (by have:=hL.out;have:=hLm.out;omega)
   have hBKg:∀ i,i<16→BK.getD i 0=data.getD (16*j+i) 0:=fun i hi=>by rw[hBK];exact blk_get hi
   obtain⟨bb,hbz⟩:∃ x,x=wr.heap.size:=⟨_,rfl⟩;have hbx:Arr (wr.alloc (.cells #[.int .u8 0,.int .u8 0,.int .u8 0,.int .u8 0,.int .u8 0,.int .u8 0,.int .u8 0,.int .u8 0,.int .u8 0,.int .u8 0,.int .u8 0,.int .u8 0,.int .u8 0,.int .u8 0,.int .u8 0,.int .u8 0] 73)) bb 73 (fillQ (fun i=>BK.getD i 0) 0)∧Chg No wr (wr.alloc (.cells #[.int .u8 0,.int .u8 0,.int .u8 0,.int .u8 0,.int .u8 0,.int .u8 0,.int .u8 0,.int .u8 0,.int .u8 0,.int .u8 0,.int .u8 0,.int .u8 0,.int .u8 0,.int .u8 0,.int .u8 0,.int .u8 0] 73)):=⟨by rw[hbz];exact heap_alloc_new wr _,(Chg.refl _ _).alloc _⟩;have hwc:=hO.out.chg;have hgdw:gd<wr.heap.size:=Nat.lt_of_lt_of_le hgd hwc.size;obtain⟨q,hq⟩:∃ q,q=16*j:=⟨_,rfl⟩;have hqi:16*(j:Int)=q:=by omega
   have hqL:q+16≤L:=by have:=hLm.out;omega
   have hqz:(j:Int)<256:=by omega
   replace hq:=LH hq;replace hbx:=LH hbx;replace hbz:=LH hbz;replace hBK:=LH hBK;replace hBKg:=LH hBKg;replace hDat:=LH hDat;replace hwc:=LH hwc;clear hdcell hgdc hSgd;go_wp2;rw[← hbz.out]
   go_loopg [19] 16 (fun g x wx=>∃ i:Nat,i+g=16∧x=.int .i64 i∧Hid (Arr wx bb 73 (fillQ (fun i=>BK.getD i 0) i)∧Chg No wr wx))
   case atStart=>exact⟨0,by omega,rfl,hbx.out⟩
   case round=>
    clear hbx;obtain⟨i,hig,rfl,hX⟩:=hrel;by_cases hi:i<16
    ·obtain⟨g2,rfl⟩:∃ j,gk=j+1:=⟨gk - 1,by omega⟩;have hxc:=hwc.out.then hX.out.2 (fun _ _ e=>e.elim);have cD:=hDat.out wr hxc i hi;rw[← hq.out] at cD;obtain⟨qi,hqi2⟩:∃ x,x=q+i:=⟨_,rfl⟩;have hqii:(q:Int)+i=qi:=by omega
     rw[← hqi2] at cD;have hx:=hBKg.out i hi;rw[← hq.out,← hqi2] at hx;rw[← hx] at cD;have hset:Arr (wr.setCell ⟨bb,i,none⟩ (.int .u8 (BK.getD i 0).toNat)) bb 73 (fillQ (fun i=>BK.getD i 0) (i+1)):=hX.out.1.set i _;have hsc2:=Chg.setCell (C:=No) (p:=⟨bb,i,none⟩) hX.out.2 (fun h=>absurd h (by rw[hbz.out];exact Nat.lt_irrefl _)) (.int .u8 (BK.getD i 0).toNat);have f0:=hX.out.1.frozen i;have c0:=hX.out.1.cell i (by rw[fillQ_length];exact hi);obtain⟨d,hdd⟩:∃ d,d=(BK.getD i 0).toNat:=⟨_,rfl⟩;rw[← hdd] at cD hset hsc2;have hdl:d<256:=hdd ▸ UInt8.toNat_lt _;have hgdx:gd<wr.heap.size:=Nat.lt_of_lt_of_le hgd hxc.size;have hbw:bb<wr.heap.size:=heap_lt hX.out.1;have hdm:qi<L:=by omega
     have hset2:=LH hset;have hsc3:=LH hsc2;replace hqi2:=LH hqi2;replace hdd:=LH hdd;clear hset hsc2 hX hx hxc;go_wp2;go_roundg g2
     case measure=>omega
     case rel=>exact⟨i+1,by omega,by go_num,hset2.out,hsc3.out⟩
    ·obtain rfl:i=16:=by omega
     obtain⟨A1,hA1⟩:∃ A,A=fillQ (fun i=>BK.getD i 0) 16:=⟨_,rfl⟩;have hA1e:A1=BK:=by rw[hA1,fillQ_self hBKl]
     rw[← hA1,hA1e] at hX;clear hA1e hA1 A1;have hA:=LH hX.out.1;have hO1:=LH (hO.out.after hX.out.2);have hl1:=LH (run_loadAt_arr (P:=prog) hA.out underlying73 (size61 hBKl));have hwx:=LH (hwc.out.then hX.out.2 (fun _ _ e=>e.elim));have hsw2:s<wr.heap.size:=Nat.lt_of_lt_of_le (heap_lt hs.out.box) hwx.out.size
     have cS:wr.cell? ⟨s,3,none⟩=some (.pointer (some ⟨c,0,none⟩)):=by
      rw[World.cell?_of_block (w:=w) (hwx.out.block s (heap_lt hs.out.box) (fun e=>by rcases e with e|e;exact hsc.1 e;exact hsc.2 e))];exact cell_of hs.out.box 3
     have hstr:∀ x:World,Chg No wr x→(convert 22 9 (.slice ka KL kcap)).run prog x=.ok (.string ⟨key.toArray⟩) x:=fun x hx=>
      run_string _ _ _ _ underlying22 underlying5 underlying9 _ _ _ (show Bytes x S _ key from by
       have h1:=(hb'.out.chg hwx.out (fun g _ hg e=>by rcases e with e|e;exact (hSc.out g hg).1 e;exact (hSc.out g hg).2 e)).chg hx (fun g _ _=>id);rw[← hKL.out] at*;exact h1)
     replace hstr:=LH hstr;clear hX hO;obtain⟨Rc,hRc⟩:∃ X,X=cryptM b a1 prs1 (⟨key.toArray⟩,unit,j) BK back:=⟨_,rfl⟩
     have hkfit:PKey.fits (⟨key.toArray⟩,unit,j):=by
      have h1:=hk.out.2.2;have h2:(⟨key.toArray⟩:ByteArray).size=key.length:=by simp[ByteArray.size]
      refine⟨?_,?_,?_⟩
      ·show (⟨key.toArray⟩:ByteArray).size≤maxLen;rw[h2,← hKL.out];unfold maxLen;omega
      ·show unit≤_;omega
      ·show j≤_;omega
     obtain⟨Y,E,hYl,hans,hcase⟩:∃ (Y:List UInt8) (E:Int),Y.length=16∧ansV Rc.1=.returned (.tuple #[.agg (u8s Y).toArray,.int .i64 E])∧((E=0∧Rc.1=some Y)∨(E=9∧Rc.1=none)):=by
      obtain⟨F',lv',pv',k',ag',h1,_⟩:=hO1.out.st;cases hc1:Rc.1 with
      | none=>exact⟨List.replicate 16 0,9,rfl,rfl,.inr ⟨rfl,rfl⟩⟩
      | some y=>exact⟨y,0,cryptM_length h1.ok (hRc.symm.trans (Prod.ext hc1 rfl)),rfl,.inl ⟨rfl,rfl⟩⟩
     obtain⟨YA,hYA⟩:∃ X,X=(u8s Y).toArray:=⟨_,rfl⟩;obtain⟨XA,hXA⟩:∃ X,X=(u8s BK).toArray:=⟨_,rfl⟩
     have hcall:∀ w3,QSw w F n c tp bv kv b a1 prs1 ov out w3→Calls prog 27 #[.pointer (some ⟨c,0,none⟩),.string what,.string ⟨key.toArray⟩,.int .i64 unit,.int .i64 j,.agg XA,.bool back] w3 fun e w4=>e=.returned (.tuple #[.agg YA,.int .i64 E])∧Chg (fun g=>g=c∨g=tp) w3 w4∧QSw w F n c tp bv kv b Rc.2.1 Rc.2.2 ov out w4:=fun w3 h3=>by
      obtain⟨F',lv',pv',k',ag',h1,h2⟩:=h3.call;rw[hXA,hYA,← hans];refine (qCrypt_ok h1 what ⟨key.toArray⟩ unit j hkfit hBKl back hRc).mono ?_;rintro e w4 ⟨rfl,⟨lv2,pv2,k2,ag2,h4⟩,h5⟩;exact⟨rfl,h5,h2 _ _ _ _ _ _ _ h4 h5⟩
     have hdr:∀ w3,Chg (fun g=>g=c∨g=tp) wr.drew w3→Chg (fun g=>g=c∨g=tp) wr w3:=fun w3 h=>⟨h.os,h.tape,h.output,h.size,h.block⟩
     have hOd:QSw w F n c tp bv kv b a1 prs1 ov out wr.drew:=hO1.out.after ((Chg.refl _ _).drew);have hcn:=hO1.out.cn;have htn:=hO1.out.tn;have hnwr:=hO1.out.size;have hwn:=hO1.out.wn;have hbbw:bb<wr.heap.size:=heap_lt hA.out;have hbbn:n≤bb:=by have h1:=hwc.out.size;have h2:=hbz.out;omega
     have hl1':∀ w3,Chg (fun g=>g=c∨g=tp) wr w3→(Instr.loadAt 73 (.pointer (some ⟨bb,0,none⟩))).run prog w3=.ok (.agg XA) w3:=fun w3 h3=>by
      rw[hXA];exact run_loadAt_arr (P:=prog) (hA.out.keep (h3.block bb hbbw (by rintro (e|e)<;>omega))) underlying73 (size61 hBKl)
     have hstr':∀ w3,Chg (fun g=>g=c∨g=tp) wr w3→(convert 22 9 (.slice ka KL kcap)).run prog w3=.ok (.string ⟨key.toArray⟩) w3:=fun w3 h3=>
      run_string _ _ _ _ underlying22 underlying5 underlying9 _ _ _ (show Bytes w3 S _ key from by
       have h1:=hb'.out.chg (hwx.out.then h3 (fun _ _ e=>e)) (fun g _ hg e=>by rcases e with e|e;exact (hSc.out g hg).1 e;exact (hSc.out g hg).2 e);rw[← hKL.out] at*;exact h1)
     have hcS:∀ w3,Chg (fun g=>g=c∨g=tp) wr w3→w3.cell? ⟨s,3,none⟩=some (.pointer (some ⟨c,0,none⟩)):=fun w3 h3=>by
      rw[World.cell?_of_block (w:=wr) (h3.block s hsw2 (fun e=>by rcases e with e|e;exact hsc.1 e;exact hsc.2 e))];exact cS
     replace hcall:=LH hcall;replace hdr:=LH hdr;replace hOd:=LH hOd;replace hl1':=LH hl1';replace hstr':=LH hstr';replace hcS:=LH hcS;replace hans:=LH hans;replace hRc:=LH hRc;replace hYA:=LH hYA;replace hXA:=LH hXA;replace hcase:=LH hcase;replace hwn:=LH hwn;clear cS hstr hl1
     go_wp2_with (fail)
     refine RA.regionT (Chg (fun g=>g=c∨g=tp)) (Chg No) [1,1,1,1,1,1,1,1,1,1,1,4,1,1,5,2,7,5] [16] (fun i v w3=>∃ o,v=.pointer (some ⟨o,0,none⟩)∧wr.heap.size≤o∧Arr w3 o 73 (List.replicate 16 0)) (fun w3=>QSw w F n c tp bv kv b a1 prs1 ov out w3) (by kernel_rfl) (Chg.refl _ _) (fun _ _ h=>h.mono (fun _ _ e=>e.elim)) (fun _ _ _ h k=>h.trans k) (fun _ _ h k=>k.after h) hOd.out (by kernel_rfl) (by kernel_rfl) ?_;intro cx
     repeat refine RA.qq (h:=?_)
     refine RA.fk prog (s) (3) (h:=?_);refine RA.lk prog (.pointer (some ⟨c,0,none⟩)) (hc:=fun w3 hp=>by exact hcS.out _ (hdr.out _ hp.1)) (h:=?_)
     repeat refine RA.qq (h:=?_)
     refine RA.cv (by kernel_rfl) (by rfl) (by rfl) (y':=.string ⟨key.toArray⟩) (fun w3 hp=>hstr'.out w3 (hdr.out _ hp.1)) ?_
     repeat refine RA.qq (h:=?_)
     refine RA.ld (by kernel_rfl) (by rfl) (by rfl) (y':=.agg XA) (fun w3 hp=>hl1'.out w3 (hdr.out _ hp.1)) ?_
     repeat refine RA.qq (h:=?_)
     refine RA.kc (P:=prog) [_,_,_,_,_,_,_] (.tuple #[.agg YA,.int .i64 E]) (fun w4=>QSw w F n c tp bv kv b Rc.2.1 Rc.2.2 ov out w4) (fun _ _=>by go_simp) (by kernel_rfl) (by rfl) (by rfl) (by kernel_rfl) (fun _ _ h k=>k.after h) rfl (fun w3 hp hH=>(hcall.out w3 hH).mono (by
      rintro e w4 ⟨rfl,h2,h3⟩;exact⟨rfl,h2,h3⟩)) ?_
     repeat refine RA.qq (h:=?_)
     refine RA.vk prog (.agg YA) (h:=?_);refine RA.pex (by kernel_rfl) (by rfl) (by rfl) (y':=.int .i64 E) (fun w3=>rfl) ?_
     refine RA.fr (by kernel_rfl) (by rfl) (fun v a b h h2=>by
      obtain⟨b1,h3,h4,h5⟩:=h2
      exact⟨b1,h3,h4,h5.keep (h.block b1 (heap_lt h5) (by rintro (e|e)<;>omega))⟩) (fun w3 hp=>⟨.pointer (some ⟨w3.heap.size,0,none⟩),w3.alloc (.cells #[.int .u8 0,.int .u8 0,.int .u8 0,.int .u8 0,.int .u8 0,.int .u8 0,.int .u8 0,.int .u8 0,.int .u8 0,.int .u8 0,.int .u8 0,.int .u8 0,.int .u8 0,.int .u8 0,.int .u8 0,.int .u8 0] 73),by
       show (execOp _ _).run prog w3=_;go_simp,(Chg.refl _ _).alloc _,w3.heap.size,rfl,(hdr.out _ hp.1).size,heap_alloc_new w3 _⟩) (fun u13=>?_)
     refine RA.stt (fun w5=>∃ o,u13=.pointer (some ⟨o,0,none⟩)∧wr.heap.size≤o∧Arr w5 o 73 Y∧QSw w F n c tp bv kv b Rc.2.1 Rc.2.2 ov out w5) (by kernel_rfl) (by rfl) (by kernel_rfl) (fun a b h k=>by
      obtain⟨b1,h1,h2,h3,h4⟩:=k;exact⟨b1,h1,h2,h3.keep (h.block b1 (heap_lt h3) id),h4.after h⟩) (fun w3 hp0 hH=>by
      have hp:=hp0.first (by kernel_rfl);obtain⟨b1,rfl,h4,h5⟩:=hp.fact 0 rfl (by kernel_rfl);have hst:=block_store h5 List.length_replicate Y hYl;rw[← hYA.out] at hst;have hwn2:=hwn.out;refine⟨_,RA.ex_store (by rfl) (by rfl) hst,b1,rfl,h4,by rw[hYA.out];exact h5.setRow _,?_⟩;rw[hYA.out];exact hH.store h.out.tape.bytes (by omega) (by omega) h5 Y) ?_
     refine RA.pas (by kernel_rfl) (by rfl) (by rfl) ?_;refine RA.RA.doneT (fun w5 hH=>?_);simp only[RA.put,List.foldr_cons,List.foldr_nil,cx,Act.put,List.setIfInBounds_toArray,List.set_cons_succ,List.set_cons_zero];obtain⟨o,rfl,hon,hAo,hO5⟩:=hH;clear hcall hdr hOd hl1' hstr' hcS;rcases hcase.out with ⟨hE,hsome⟩|⟨hE,hnone⟩
     ·have hswn:=sweepM_next hsw.out (by rw[← hBK.out,← hRc.out];exact Prod.ext hsome rfl);clear hcase;subst hE;obtain⟨oa,oc,rfl,ho1,ho2⟩:=(Cells.own hO5.own).shape;have hu:=arr_bytes hAo (by rw[hYl];unfold maxLen;omega)
      have hu2:Cells w5 (fun _=>True) (.slice (some ⟨o,0,none⟩) 16 16) 16 1 (u8s Y):=by
       have h:Cells w5 (fun _=>True) _ Y.length 1 (u8s Y):=hu;rw[hYl] at h;exact h
      obtain⟨OL,hOL⟩:∃ X,X=out.length:=⟨_,rfl⟩;have hOL1:OL≤4096:=by have h1:=hol.out;have h2:=hLm.out;omega
      have hown:=hO5.own;rw[← hOL] at hown ho1 ⊢;unfold maxLen at ho2;have hwn2:=hwn.out;have hs5:=hO5.size;obtain⟨v',w6,hrun,r1,r2,r3⟩:=own_push (P:=prog) (bytes:=1) underlying22 infoByte rfl (by decide) hown hs5 (Chg.refl _ _) hu2 (u8s_one _) (by unfold maxLen;omega) (by omega) 22;rw[← u8s_append] at r1;have hO6:QSw w F n c tp bv kv b Rc.2.1 Rc.2.2 v' (out++Y) w6:=hO5.push (by rw[List.length_append,hYl,← hOL];exact r1) (by rw[hOL] at r2;exact r2) (by rw[hOL] at r3;exact r3);have hol6:(out++Y).length=16*(j+1):=by rw[List.length_append,hYl,hol.out];omega
      obtain⟨g',cp,rfl,_,_⟩:=own_shape r1 (by omega);replace hrun:=LH hrun;replace hO6:=LH hO6;replace hol6:=LH hol6;replace hswn:=LH hswn;replace hOL:=LH hOL;replace hAo:=LH hAo;replace hO5:=LH hO5;replace hown:=LH hown;clear hu hu2 r1 r2 hA hO1 hwx
      go_wp2_with (at_builtin;(refine wpList_app rfl _ _ 22 rfl _ _ _ rfl rfl hrun.out ?_))
      go_roundg g1
      case measure=>omega
      case rel=>exact⟨j+1,_,out++Y,Rc.2.1,Rc.2.2,by omega,by go_num,rfl,hO6.out,hswn.out,hol6.out⟩
     ·have hsws:=sweepM_stuck (sweepM_stop hsw.out (by rw[← hBK.out,← hRc.out];exact Prod.ext hnone rfl)) m (by omega);clear hcase;subst hE;have hf:=hO5.fin h.out;rw[hsws] at hR;replace hf:=LH hf;replace hsws:=LH hsws;clear hO5 hAo hA hO1 hwx;go_wp2;go_ret2;rw[hR.out];exact⟨rfl,hf.out.1,hf.out.2.2⟩
  ·obtain rfl:j=m:=by omega
   have hf:=hO.out.fin h.out;rw[hsw.out] at hR;replace hf:=LH hf;clear hO hlt hjg;go_wp2;go_ret2;rw[hR.out];exact⟨⟨_,rfl,hf.out.2.1⟩,hf.out.1,hf.out.2.2⟩
end Go.Proofs.YtbgfdbidbjlaaaaGreat.Fd
