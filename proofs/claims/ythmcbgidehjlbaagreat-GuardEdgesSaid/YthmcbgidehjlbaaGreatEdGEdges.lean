/-
  priorylaw22.GuardEdges answers true. No condition beyond what each theorem names.
-/
import Derived.Test.YthmcbgidehjlbaaGreatEdGFreshPk
namespace Go.Proofs.YthmcbgidehjlbaaGreat.Fd
open _root_.Go.Proofs.Tryz
open Go Go.RowKit K
set_option maxRecDepth 100000
set_option maxHeartbeats 16000000
theorem over_dec (F C A N:Nat) (ov:Bool) (hC:1≤C) (hN:1≤N) (h:ov=true↔A<F+C∧F<A+N):([((60+F:Int),(C:Int))]:List P.Ar).any (fun a=>P.overB a (60+(A:Int),(N:Int)))=ov:=by
 rw[Bool.eq_iff_iff,h];simp only[List.any_cons,List.any_nil,Bool.or_false,P.overB,P.hasB,Bool.or_eq_true,Bool.and_eq_true,decide_eq_true_eq];omega
theorem guardEdges_ok (f c n:Int) (bh ov:Bool) (w:World):Calls prog 6 #[.int .i64 f,.int .i64 c,.int .i64 n,.bool bh,.bool ov] w fun e w'=>e=.returned (.bool true)∧Below w.heap.size w w':=by
 have haw:=LH glAwake_ok;have hmk:∀ (u:World) (n:Nat) (m:Int),m=n→n≤1000000→_:=mk_z;replace hmk:=LH hmk;by_cases hr:10≤f∧f≤30∧1≤c∧c≤10∧1≤n∧n≤8
 rotate_left
 ·clear hmk;go_enter func6,ntmps6;have hd:(f<10∨30<f∨c<1∨10<c∨n<1∨8<n):=by omega
  have key:(decide (f<10) || decide (30<f) || decide (c<1) || decide (10<c) || decide (n<1) || decide (8<n))=true:=by simpa [Bool.or_eq_true,or_assoc] using hd
  clear hr;by_cases h1:f<10
  ·go_wp2_with fail
   refine (haw.out _).mono ?_;rintro e w1 ⟨rfl,hb⟩;go_wp2;go_ret;exact⟨rfl,hb⟩
  by_cases h2:30<f
  ·go_wp2_with fail
   refine (haw.out _).mono ?_;rintro e w1 ⟨rfl,hb⟩;go_wp2;go_ret;exact⟨rfl,hb⟩
  by_cases h3:c<1
  ·go_wp2_with fail
   refine (haw.out _).mono ?_;rintro e w1 ⟨rfl,hb⟩;go_wp2;go_ret;exact⟨rfl,hb⟩
  by_cases h4:10<c
  ·go_wp2_with fail
   refine (haw.out _).mono ?_;rintro e w1 ⟨rfl,hb⟩;go_wp2;go_ret;exact⟨rfl,hb⟩
  by_cases h5:n<1
  ·go_wp2_with fail
   refine (haw.out _).mono ?_;rintro e w1 ⟨rfl,hb⟩;go_wp2;go_ret;exact⟨rfl,hb⟩
  have h6:8<n:=by omega
  go_wp2_with fail
  refine (haw.out _).mono ?_;rintro e w1 ⟨rfl,hb⟩;go_wp2;go_ret;exact⟨rfl,hb⟩
 obtain⟨F,rfl⟩:∃ F:Nat,f=F:=⟨f.toNat,by omega⟩;obtain⟨C,rfl⟩:∃ C:Nat,c=C:=⟨c.toNat,by omega⟩;obtain⟨N,rfl⟩:∃ N:Nat,n=N:=⟨n.toNat,by omega⟩;obtain⟨h1,h2,h3,h4,h5,h6⟩:=hr;have hf:=LH (glFresh_ok w);go_enter func6,ntmps6
 go_wp2_with fail
 refine hf.out.mono ?_;rintro e w1 ⟨d,v,m,rfl,hvl,hml,hV,hVB,B⟩;have hD:=LH (voData_ok hV);replace hV:=LH hV;replace hVB:=LH hVB;replace B:=LH B;replace hvl:=LH hvl;clear hf hml
 go_wp2_with fail
 refine hD.out.mono ?_;rintro e w2 ⟨rfl,hb⟩;have hbb:=hb.alloc hb.size (.cells #[.int .i64 (60),.int .i64 (50)] 27);replace B:=LH (B.out.trans (hbb.mono B.out.size));have hVv:=fun g=>VolB.back (g:=g) hV.out (Chg.of_below hbb No) id
 replace hVB:=LH (fun g hg=>hVB.out g (hVv g hg));replace hV:=LH (hV.out.after hbb);have Xp4:=LH (P.box_new w2 (60) (50));obtain⟨p,hp⟩:∃ p:Int,p=60+F:=⟨_,rfl⟩;have hp0:(60:Int)+F=p:=hp.symm;have hpb:70≤p∧p≤90:=by omega
 replace hp:=LH hp;clear hb hbb hVv hD
 go_wp2_with fail
 have hcs:=P.cells_areas (w2.alloc (.cells #[.int .i64 (60),.int .i64 (50)] 27)) [(p,(C:Int))] (by simp);rw[World.size_alloc,show ([(p,(C:Int))]:List P.Ar).length=1 from rfl,show (P.arCells [(p,(C:Int))]).toArray=#[.int .i64 p,.int .i64 C] from rfl] at hcs;have hgn:=guNew_ok v hcs (by decide);rw[show ([(p,(C:Int))]:List P.Ar).filter P.cntB=[(p,(C:Int))] by simp[P.cntB,h3]] at hgn;obtain⟨n4,hn4⟩:∃ n,n=w2.heap.size:=⟨_,rfl⟩;have hW4s:(w2.alloc (.cells #[.int .i64 (60),.int .i64 (50)] 27)).heap.size=n4+1:=by rw[World.size_alloc,hn4]
 rw[← hn4] at hgn ⊢;clear hcs;generalize w2.alloc (.cells #[.int .i64 (60),.int .i64 (50)] 27)=W4 at*;replace hW4s:=LH hW4s;replace hn4:=LH hn4;refine hgn.mono ?_;clear hgn;rintro e w5 ⟨k,rfl,hkk,hK,hb⟩;have hkw:=LH (show w.heap.size≤k from Nat.le_trans B.out.size (Nat.le_trans (by simp) hkk));clear hkk;have hbb:Below W4.heap.size W4 w5:=((Below.refl _ _).alloc (Nat.le_refl _) _).trans (hb.mono (by simp));replace B:=LH (B.out.trans (hbb.mono B.out.size));have hVv:=fun g=>VolB.back (g:=g) hV.out (Chg.of_below hbb No) id
 replace hVB:=LH (fun g hg=>hVB.out g (hVv g hg));replace hV:=LH (hV.out.after hbb);replace hK:=LH hK;obtain⟨A,hA⟩:∃ A:Nat,A=(if bh then (if ov then F+C - 1 else F+C) else (if ov then F - N+1 else F - N)):=⟨_,rfl⟩;have hAI:bh=false→ov=false→(F:Int) - N=A:=by rintro rfl rfl;simp at hA;omega
 have hAI2:bh=false→ov=true→∃ q:Int,(F:Int) - N=q∧q+1=A∧0≤q∧q≤50:=by rintro rfl rfl;simp at hA;exact⟨_,rfl,by omega,by omega,by omega⟩
 have hAI3:bh=true→ov=false→(F:Int)+C=A:=by rintro rfl rfl;simp at hA;omega
 have hAI4:bh=true→ov=true→∃ q:Int,(F:Int)+C=q∧q - 1=A∧0≤q∧q≤50:=by rintro rfl rfl;simp at hA;exact⟨_,rfl,by omega,by omega,by omega⟩
 have hAb:A+N≤48:=by cases bh<;>cases ov<;>simp at hA<;>omega
 have hov:[((60+F:Int),(C:Int))].any (fun a=>P.overB a (60+(A:Int),(N:Int)))=ov:=over_dec F C A N ov (by omega) (by omega) (by
  cases bh<;>cases ov<;>simp at hA ⊢<;>omega)
 rw[← hp.out] at hov;obtain⟨n64,hn64⟩:∃ n64:Nat,n64=N*64:=⟨_,rfl⟩;have hN64:(N:Int)*64=n64:=by omega
 have hn64b:n64≤512:=by omega
 have hmk1:=hmk.out w5 n64 n64 rfl (by omega);have hovs:=LH hov;replace hA:=LH hA;replace hn64:=LH hn64;replace hAI:=LH hAI;replace hAI2:=LH hAI2;replace hAI3:=LH hAI3;replace hAI4:=LH hAI4;obtain⟨nb,hnb⟩:∃ nb,nb=w5.heap.size:=⟨_,rfl⟩;obtain⟨w6,hw6⟩:∃ w6,w6=w5.alloc (.cells (u8s (List.replicate n64 0)).toArray 5):=⟨_,rfl⟩;have hb6:Below w5.heap.size w5 w6:=by rw[hw6];exact (Below.refl _ _).alloc (Nat.le_refl _) _
 have hA6:∃ l:List UInt8,l.length=n64∧Arr w6 nb 5 l:=⟨List.replicate n64 0,List.length_replicate,by rw[hw6,hnb];exact heap_alloc_new w5 _⟩;rw[← hnb,← hw6] at hmk1;replace hb6:=LH hb6;replace hA6:=LH hA6;replace hnb:=LH hnb;replace hw6:=LH hw6;clear hb hbb hVv hp0 Xp4 hov;cases ov
 ·
  cases bh
  rotate_left
  ·have hov:=hovs.out;have e1:=hAI3.out rfl rfl;go_wp2
   go_loopg [18] n64 (fun g ix wr=>∃ i:Nat,i+g=n64∧ix=.int .i64 i∧Hid (Below w5.heap.size w5 wr∧∃ l:List UInt8,l.length=n64∧Arr wr nb 5 l))
   case atStart=>exact⟨0,by omega,rfl,hb6.out,hA6.out⟩
   case round=>
    obtain⟨i,hig,rfl,HS⟩:=hrel;obtain⟨hbr,l,hl,hAr⟩:=HS.out;by_cases hlt:i<n64
    ·obtain⟨g1,rfl⟩:∃ j,gk=j+1:=⟨gk - 1,by omega⟩;have hlI:(i:Int)<n64:=by omega
     have f0:=hAr.frozen i;have c0:=hAr.cell i (by omega)
     have HS2:Below w5.heap.size w5 (wr.setCell ⟨nb,i,none⟩ (.int .u8 120))∧∃ l:List UInt8,l.length=n64∧Arr (wr.setCell ⟨nb,i,none⟩ (.int .u8 120)) nb 5 l:=
      ⟨hbr.setCell (p:=⟨nb,i,none⟩) (by rw[hnb.out];exact Nat.le_refl _) _,l.set i 120,List.length_set.trans hl,hAr.set i 120⟩
     replace HS2:=LH HS2;clear HS hAr hbr;go_wp2;go_roundg g1
     case measure=>omega
     case rel=>exact⟨i+1,by omega,by go_num,HS2.out⟩
    ·obtain rfl:gk=0:=by omega
     obtain rfl:i=n64:=by omega
     have hd:Bytes wr (fun g=>g=nb) (.slice (some ⟨nb,0,none⟩) i i) l:=by
      rw[Bytes,hl];refine⟨by simp[u8s_length,hl],_,i,rfl,by omega,by unfold maxLen;omega,fun h=>(by cases h),.inr ⟨nb,0,rfl,rfl,heap_lt hAr,fun j u hu=>?_⟩⟩;rw[Nat.zero_add,cell_of hAr]
      simpa using hu
     have hV7:=hV.out.after hbr;have hK7:=hK.out.after hbr
     have hsn:∀ g,g=nb→¬ VolB wr v g:=fun g e hB=>by
      have:=VolB.lt hV.out (VolB.back hV.out (Chg.of_below hbr No) id hB);have:=hnb.out;omega
     have hw:=guWrite_ok hK7 hV7 hd hsn A N (by rw[hl];exact hn64.out) (by omega) (by omega) (by simp) (fun a ha=>by
      simp only[List.mem_singleton] at ha;subst ha;exact⟨by show (0:Int)≤p;omega,by show p≤1000000000;omega,by show (C:Int)≤1000000000;omega⟩)
     have B7:=LH (B.out.trans (hbr.mono B.out.size));have hVv:=fun g=>VolB.back (g:=g) hV.out (Chg.of_below hbr No) id
     have hVB7:=LH (fun g hg=>hVB.out g (hVv g hg));replace hw:=LH hw;replace hd:=LH hd;replace hl:=LH hl;replace hsn:=LH hsn;clear hVv hV7 hK7 HS hbr hAr
     go_wp2_with fail
     refine hw.out.mono ?_;rintro e w8 (⟨-,rfl,hV8,hK8,hC,-⟩|⟨h,-⟩)
     rotate_left
     ·exact absurd (hov.symm.trans h) (by decide)
     have B8:=B7.out.trans (hC.below B7.out.size (fun g hg hB=>by have:=hVB7.out g hB;omega));have hd8:Bytes w8 (fun g=>g=nb) (.slice (some ⟨nb,0,none⟩) i i) l:=hd.out.chg hC (fun g _ hg=>hsn.out g hg);have ck:w8.cell? ⟨k,0,none⟩=some (.pointer (some ⟨v,0,none⟩)):=by obtain⟨g,cap,h1,_⟩:=hK8;exact cell_of h1 0
     have hrd:=voRead_ok hV8 A N (by omega) (fun p _=>bitB_zero p);rw[List.nil_append,readL_newL A (by rw[hl.out];exact hn64.out)] at hrd;replace hd8:=LH hd8;clear hC;replace hrd:=LH hrd;replace hV8:=LH hV8;replace hK8:=LH hK8;replace B8:=LH B8;clear hw
     go_wp2_with fail
     refine hrd.out.mono ?_;rintro e w9 ⟨u,rfl,hu,hb⟩;replace B8:=LH (B8.out.trans (hb.mono B8.out.size));replace hK8:=LH (hK8.out.after hb)
     have hub:Bytes w9 (fun _=>True) u l:=by
      show Cells _ _ _ l.length 1 _;rw[hl.out,hn64.out];exact (Cells.own hu).mono (fun _ _ _=>trivial)
     have hd9:=LH (hd8.out.chg (Chg.of_below hb No) (fun _ _ _=>id));have hua:∃ ua un uc,u=.slice ua un uc:=by obtain⟨ua,uc,e,_⟩:=hub.shape;exact⟨_,_,_,e⟩
     obtain⟨ua,un,uc,rfl⟩:=hua;replace hub:=LH hub;clear hb hu hrd ck;have st1:(convert 42 9 (.slice ua un uc)).run prog w9=.ok (.string ⟨l.toArray⟩) w9:=by exact run_string _ _ _ _ underlying42 underlying5 underlying9 _ _ _ hub.out
     have st2:(convert 42 9 (.slice (some ⟨nb,0,none⟩) i i)).run prog w9=.ok (.string ⟨l.toArray⟩) w9:=by exact run_string _ _ _ _ underlying42 underlying5 underlying9 _ _ _ hd9.out
     go_wp2_with fail
     refine (guTripped_ok hK8.out).mono ?_;rintro e w10 ⟨rfl,rfl⟩;clear st1 st2
     go_wp2_with fail
     refine (haw.out _).mono ?_;rintro e w11 ⟨rfl,hb⟩;have hfin:=LH (B8.out.trans (hb.mono B8.out.size));clear hb;go_wp2;go_ret;exact⟨rfl,hfin.out⟩
  ·have hov:=hovs.out;have e1:=hAI.out rfl rfl;go_wp2
   go_loopg [18] n64 (fun g ix wr=>∃ i:Nat,i+g=n64∧ix=.int .i64 i∧Hid (Below w5.heap.size w5 wr∧∃ l:List UInt8,l.length=n64∧Arr wr nb 5 l))
   case atStart=>exact⟨0,by omega,rfl,hb6.out,hA6.out⟩
   case round=>
    obtain⟨i,hig,rfl,HS⟩:=hrel;obtain⟨hbr,l,hl,hAr⟩:=HS.out;by_cases hlt:i<n64
    ·obtain⟨g1,rfl⟩:∃ j,gk=j+1:=⟨gk - 1,by omega⟩;have hlI:(i:Int)<n64:=by omega
     have f0:=hAr.frozen i;have c0:=hAr.cell i (by omega)
     have HS2:Below w5.heap.size w5 (wr.setCell ⟨nb,i,none⟩ (.int .u8 120))∧∃ l:List UInt8,l.length=n64∧Arr (wr.setCell ⟨nb,i,none⟩ (.int .u8 120)) nb 5 l:=
      ⟨hbr.setCell (p:=⟨nb,i,none⟩) (by rw[hnb.out];exact Nat.le_refl _) _,l.set i 120,List.length_set.trans hl,hAr.set i 120⟩
     replace HS2:=LH HS2;clear HS hAr hbr;go_wp2;go_roundg g1
     case measure=>omega
     case rel=>exact⟨i+1,by omega,by go_num,HS2.out⟩
    ·obtain rfl:gk=0:=by omega
     obtain rfl:i=n64:=by omega
     have hd:Bytes wr (fun g=>g=nb) (.slice (some ⟨nb,0,none⟩) i i) l:=by
      rw[Bytes,hl];refine⟨by simp[u8s_length,hl],_,i,rfl,by omega,by unfold maxLen;omega,fun h=>(by cases h),.inr ⟨nb,0,rfl,rfl,heap_lt hAr,fun j u hu=>?_⟩⟩;rw[Nat.zero_add,cell_of hAr]
      simpa using hu
     have hV7:=hV.out.after hbr;have hK7:=hK.out.after hbr
     have hsn:∀ g,g=nb→¬ VolB wr v g:=fun g e hB=>by
      have:=VolB.lt hV.out (VolB.back hV.out (Chg.of_below hbr No) id hB);have:=hnb.out;omega
     have hw:=guWrite_ok hK7 hV7 hd hsn A N (by rw[hl];exact hn64.out) (by omega) (by omega) (by simp) (fun a ha=>by
      simp only[List.mem_singleton] at ha;subst ha;exact⟨by show (0:Int)≤p;omega,by show p≤1000000000;omega,by show (C:Int)≤1000000000;omega⟩)
     have B7:=LH (B.out.trans (hbr.mono B.out.size));have hVv:=fun g=>VolB.back (g:=g) hV.out (Chg.of_below hbr No) id
     have hVB7:=LH (fun g hg=>hVB.out g (hVv g hg));replace hw:=LH hw;replace hd:=LH hd;replace hl:=LH hl;replace hsn:=LH hsn;clear hVv hV7 hK7 HS hbr hAr
     go_wp2_with fail
     refine hw.out.mono ?_;rintro e w8 (⟨-,rfl,hV8,hK8,hC,-⟩|⟨h,-⟩)
     rotate_left
     ·exact absurd (hov.symm.trans h) (by decide)
     have B8:=B7.out.trans (hC.below B7.out.size (fun g hg hB=>by have:=hVB7.out g hB;omega));have hd8:Bytes w8 (fun g=>g=nb) (.slice (some ⟨nb,0,none⟩) i i) l:=hd.out.chg hC (fun g _ hg=>hsn.out g hg);have ck:w8.cell? ⟨k,0,none⟩=some (.pointer (some ⟨v,0,none⟩)):=by obtain⟨g,cap,h1,_⟩:=hK8;exact cell_of h1 0
     have hrd:=voRead_ok hV8 A N (by omega) (fun p _=>bitB_zero p);rw[List.nil_append,readL_newL A (by rw[hl.out];exact hn64.out)] at hrd;replace hd8:=LH hd8;clear hC;replace hrd:=LH hrd;replace hV8:=LH hV8;replace hK8:=LH hK8;replace B8:=LH B8;clear hw
     go_wp2_with fail
     refine hrd.out.mono ?_;rintro e w9 ⟨u,rfl,hu,hb⟩;replace B8:=LH (B8.out.trans (hb.mono B8.out.size));replace hK8:=LH (hK8.out.after hb)
     have hub:Bytes w9 (fun _=>True) u l:=by
      show Cells _ _ _ l.length 1 _;rw[hl.out,hn64.out];exact (Cells.own hu).mono (fun _ _ _=>trivial)
     have hd9:=LH (hd8.out.chg (Chg.of_below hb No) (fun _ _ _=>id));have hua:∃ ua un uc,u=.slice ua un uc:=by obtain⟨ua,uc,e,_⟩:=hub.shape;exact⟨_,_,_,e⟩
     obtain⟨ua,un,uc,rfl⟩:=hua;replace hub:=LH hub;clear hb hu hrd ck;have st1:(convert 42 9 (.slice ua un uc)).run prog w9=.ok (.string ⟨l.toArray⟩) w9:=by exact run_string _ _ _ _ underlying42 underlying5 underlying9 _ _ _ hub.out
     have st2:(convert 42 9 (.slice (some ⟨nb,0,none⟩) i i)).run prog w9=.ok (.string ⟨l.toArray⟩) w9:=by exact run_string _ _ _ _ underlying42 underlying5 underlying9 _ _ _ hd9.out
     go_wp2_with fail
     refine (guTripped_ok hK8.out).mono ?_;rintro e w10 ⟨rfl,rfl⟩;clear st1 st2
     go_wp2_with fail
     refine (haw.out _).mono ?_;rintro e w11 ⟨rfl,hb⟩;have hfin:=LH (B8.out.trans (hb.mono B8.out.size));clear hb;go_wp2;go_ret;exact⟨rfl,hfin.out⟩
 ·
  cases bh
  rotate_left
  ·have hov:=hovs.out;obtain⟨q,e1,e2,hqb⟩:=hAI4.out rfl rfl;go_wp2
   go_loopg [18] n64 (fun g ix wr=>∃ i:Nat,i+g=n64∧ix=.int .i64 i∧Hid (Below w5.heap.size w5 wr∧∃ l:List UInt8,l.length=n64∧Arr wr nb 5 l))
   case atStart=>exact⟨0,by omega,rfl,hb6.out,hA6.out⟩
   case round=>
    obtain⟨i,hig,rfl,HS⟩:=hrel;obtain⟨hbr,l,hl,hAr⟩:=HS.out;by_cases hlt:i<n64
    ·obtain⟨g1,rfl⟩:∃ j,gk=j+1:=⟨gk - 1,by omega⟩;have hlI:(i:Int)<n64:=by omega
     have f0:=hAr.frozen i;have c0:=hAr.cell i (by omega)
     have HS2:Below w5.heap.size w5 (wr.setCell ⟨nb,i,none⟩ (.int .u8 120))∧∃ l:List UInt8,l.length=n64∧Arr (wr.setCell ⟨nb,i,none⟩ (.int .u8 120)) nb 5 l:=
      ⟨hbr.setCell (p:=⟨nb,i,none⟩) (by rw[hnb.out];exact Nat.le_refl _) _,l.set i 120,List.length_set.trans hl,hAr.set i 120⟩
     replace HS2:=LH HS2;clear HS hAr hbr;go_wp2;go_roundg g1
     case measure=>omega
     case rel=>exact⟨i+1,by omega,by go_num,HS2.out⟩
    ·obtain rfl:gk=0:=by omega
     obtain rfl:i=n64:=by omega
     have hd:Bytes wr (fun g=>g=nb) (.slice (some ⟨nb,0,none⟩) i i) l:=by
      rw[Bytes,hl];refine⟨by simp[u8s_length,hl],_,i,rfl,by omega,by unfold maxLen;omega,fun h=>(by cases h),.inr ⟨nb,0,rfl,rfl,heap_lt hAr,fun j u hu=>?_⟩⟩;rw[Nat.zero_add,cell_of hAr]
      simpa using hu
     have hV7:=hV.out.after hbr;have hK7:=hK.out.after hbr
     have hsn:∀ g,g=nb→¬ VolB wr v g:=fun g e hB=>by
      have:=VolB.lt hV.out (VolB.back hV.out (Chg.of_below hbr No) id hB);have:=hnb.out;omega
     have hw:=guWrite_ok hK7 hV7 hd hsn A N (by rw[hl];exact hn64.out) (by omega) (by omega) (by simp) (fun a ha=>by
      simp only[List.mem_singleton] at ha;subst ha;exact⟨by show (0:Int)≤p;omega,by show p≤1000000000;omega,by show (C:Int)≤1000000000;omega⟩)
     have B7:=LH (B.out.trans (hbr.mono B.out.size));have hVv:=fun g=>VolB.back (g:=g) hV.out (Chg.of_below hbr No) id
     have hVB7:=LH (fun g hg=>hVB.out g (hVv g hg));replace hw:=LH hw;replace hd:=LH hd;replace hl:=LH hl;replace hsn:=LH hsn;clear hVv hV7 hK7 HS hbr hAr
     go_wp2_with fail
     refine hw.out.mono ?_;rintro e w8 (⟨h,-⟩|⟨-,rfl,hV8,hK8,hC⟩)
     ·exact absurd (hov.symm.trans h) (by decide)
     have B8:=B7.out.trans (hC.below B7.out.size (fun g hg hB=>hB.elim (fun e=>by have:=hvl.out;omega) (fun e=>by have:=hkw.out;omega)));have ck:w8.cell? ⟨k,0,none⟩=some (.pointer (some ⟨v,0,none⟩)):=by obtain⟨g,cap,h1,_⟩:=hK8;exact cell_of h1 0
     have hrd:=voRead_ok hV8 A N (by omega) (fun p _=>bitB_zero p);rw[readL_nil] at hrd;clear hC;replace hrd:=LH hrd;replace hV8:=LH hV8;replace hK8:=LH hK8;replace B8:=LH B8;clear hw
     go_wp2_with fail
     refine hrd.out.mono ?_;rintro e w9 ⟨u,rfl,hu,hb⟩;replace B8:=LH (B8.out.trans (hb.mono B8.out.size));replace hK8:=LH (hK8.out.after hb)
     have hub:Bytes w9 (fun _=>True) u (List.replicate i 0):=by
      show Cells _ _ _ (List.replicate i (0:UInt8)).length 1 _;rw[List.length_replicate,hn64.out];exact (Cells.own hu).mono (fun _ _ _=>trivial)
     have hua:∃ ua un uc,u=.slice ua un uc:=by obtain⟨ua,uc,e,_⟩:=hub.shape;exact⟨_,_,_,e⟩
     obtain⟨ua,un,uc,rfl⟩:=hua;replace hub:=LH hub;clear hb hu hrd ck hd hsn
     go_wp2_with fail
     have hdr:∀ w3,Chg No w9.drew w3→Chg No w9 w3:=fun w3 h=>⟨h.os,h.tape,h.output,h.size,h.block⟩
     replace hdr:=LH hdr;have hkt:=LH (fun w3 (h:Chg No w9.drew w3)=>guTripped_ok (hK8.out.after (hdr.out _ h).no));refine RA.rt (Chg No) [1,1,1,1,1,1,1,3,1,1,1,1,1,4,1,1,4,1,1] [] (fun _=>True) trivial (fun _=>Chg.refl _ _) (fun _ _ _ h k=>h.trans k) (h:=?_);intro cx
     repeat (first|refine RA.qq (h:=?_)|refine RA.eq true (by kernel_rfl) (by rfl) (by rfl) (by rfl) (by rfl) ?_|refine RA.pt (by kernel_rfl) (by rfl) (by rfl) (by rfl) ?_|refine RA.es true (by kernel_rfl) (by rfl) (by rfl) (by rfl) (by simp) ?_|refine RA.nt (by kernel_rfl) (by rfl) (by rfl) ?_)
     refine RA.cv (by kernel_rfl) (by rfl) (by rfl) (fun w3 hp=>by exact run_string _ _ _ _ underlying42 underlying5 underlying9 _ _ _ (hub.out.chg (hdr.out _ hp.1) (fun _ _ _=>id))) ?_
     repeat (first|refine RA.qq (h:=?_)|refine RA.eq true (by kernel_rfl) (by rfl) (by rfl) (by rfl) (by rfl) ?_|refine RA.pt (by kernel_rfl) (by rfl) (by rfl) (by rfl) ?_|refine RA.es true (by kernel_rfl) (by rfl) (by rfl) (by rfl) (by simp) ?_|refine RA.nt (by kernel_rfl) (by rfl) (by rfl) ?_)
     refine RA.vk prog (.int .i64 i) (hr:=fun w hp=>by (try go_simp);(rw[IntKind.wrap_i64];omega)) (h:=?_)
     refine RA.bq (fun x w3=>Bytes w3 (fun _=>True) x (List.replicate i 0)) (fun _ _=>True) (by kernel_rfl) (by rfl) (by kernel_rfl) (fun _ _ _ h k=>k.chg h (fun _ _ _=>id)) (fun _ _ _ _ _=>trivial) (fun w3 hp _=>by
      have hm3:=hmk.out w3 i i rfl (by omega);refine⟨.slice (some ⟨w3.heap.size,0,none⟩) i i,w3.alloc (.cells (u8s (List.replicate i 0)).toArray 5),?_,(Chg.refl _ _).alloc _,?_,trivial⟩
      ·show (execOp _ _).run prog w3=_;go_simp
      ·have h:=(Cells.own (own_new w3 (u8s (List.replicate i 0)).toArray 5 i 1 (by simp[u8s_length]) (by unfold maxLen;omega) (Nat.zero_le _))).mono (S':=fun _=>True) (fun _ _ _=>trivial);show Cells _ _ _ (List.replicate i (0:UInt8)).length 1 _;rw[List.length_replicate];exact h) (fun x=>?_)
     refine RA.cv (by kernel_rfl) (by rfl) (by rfl) (fun w3 hp=>by have hb:=hp.fact 0 rfl (by kernel_rfl);exact run_string _ _ _ _ underlying42 underlying5 underlying9 _ _ _ hb) ?_
     repeat (first|refine RA.qq (h:=?_)|refine RA.eq true (by kernel_rfl) (by rfl) (by rfl) (by rfl) (by rfl) ?_|refine RA.pt (by kernel_rfl) (by rfl) (by rfl) (by rfl) ?_|refine RA.es true (by kernel_rfl) (by rfl) (by rfl) (by rfl) (by simp) ?_|refine RA.nt (by kernel_rfl) (by rfl) (by rfl) ?_)
     refine RA.kc (P:=prog) [.pointer (some ⟨k,0,none⟩)] (.bool true) (fun _=>True) (fun _ _=>by go_simp) (by kernel_rfl) (by rfl) (by rfl) (by kernel_rfl) (fun _ _ _ h=>h) rfl (fun w3 hp hH=>(hkt.out w3 hp.1).mono (by rintro e w4 ⟨rfl,rfl⟩;exact⟨rfl,Chg.refl _ _,trivial⟩)) ?_
     repeat (first|refine RA.qq (h:=?_)|refine RA.eq true (by kernel_rfl) (by rfl) (by rfl) (by rfl) (by rfl) ?_|refine RA.pt (by kernel_rfl) (by rfl) (by rfl) (by rfl) ?_|refine RA.es true (by kernel_rfl) (by rfl) (by rfl) (by rfl) (by simp) ?_|refine RA.nt (by kernel_rfl) (by rfl) (by rfl) ?_)
     refine RA.kc (P:=prog) [] (.bool true) (fun _=>True) (fun _ _=>by go_simp) (by kernel_rfl) (by rfl) (by rfl) (by kernel_rfl) (fun _ _ _ h=>h) rfl (fun w3 hp hH=>(haw.out w3).mono (by rintro e w4 ⟨rfl,h2⟩;exact⟨rfl,Chg.of_below h2 _,trivial⟩)) ?_
     repeat (first|refine RA.qq (h:=?_)|refine RA.eq true (by kernel_rfl) (by rfl) (by rfl) (by rfl) (by rfl) ?_|refine RA.pt (by kernel_rfl) (by rfl) (by rfl) (by rfl) ?_|refine RA.es true (by kernel_rfl) (by rfl) (by rfl) (by rfl) (by simp) ?_|refine RA.nt (by kernel_rfl) (by rfl) (by rfl) ?_)
     refine RA.RA.done rfl (fun w10 hR hF hH=>?_);clear hF hH;simp only[RA.put,List.foldr_cons,List.foldr_nil,cx,Act.put,List.setIfInBounds_toArray,List.set_cons_succ,List.set_cons_zero]
     try simp only[Bool.not_true]
     try simp only[Bool.not_false]
     have hfin:=LH (B8.out.trans ((hdr.out _ hR).no.mono B8.out.size));clear hR;go_wp2;go_ret;exact⟨rfl,hfin.out⟩
  ·have hov:=hovs.out;obtain⟨q,e1,e2,hqb⟩:=hAI2.out rfl rfl;go_wp2
   go_loopg [18] n64 (fun g ix wr=>∃ i:Nat,i+g=n64∧ix=.int .i64 i∧Hid (Below w5.heap.size w5 wr∧∃ l:List UInt8,l.length=n64∧Arr wr nb 5 l))
   case atStart=>exact⟨0,by omega,rfl,hb6.out,hA6.out⟩
   case round=>
    obtain⟨i,hig,rfl,HS⟩:=hrel;obtain⟨hbr,l,hl,hAr⟩:=HS.out;by_cases hlt:i<n64
    ·obtain⟨g1,rfl⟩:∃ j,gk=j+1:=⟨gk - 1,by omega⟩;have hlI:(i:Int)<n64:=by omega
     have f0:=hAr.frozen i;have c0:=hAr.cell i (by omega)
     have HS2:Below w5.heap.size w5 (wr.setCell ⟨nb,i,none⟩ (.int .u8 120))∧∃ l:List UInt8,l.length=n64∧Arr (wr.setCell ⟨nb,i,none⟩ (.int .u8 120)) nb 5 l:=
      ⟨hbr.setCell (p:=⟨nb,i,none⟩) (by rw[hnb.out];exact Nat.le_refl _) _,l.set i 120,List.length_set.trans hl,hAr.set i 120⟩
     replace HS2:=LH HS2;clear HS hAr hbr;go_wp2;go_roundg g1
     case measure=>omega
     case rel=>exact⟨i+1,by omega,by go_num,HS2.out⟩
    ·obtain rfl:gk=0:=by omega
     obtain rfl:i=n64:=by omega
     have hd:Bytes wr (fun g=>g=nb) (.slice (some ⟨nb,0,none⟩) i i) l:=by
      rw[Bytes,hl];refine⟨by simp[u8s_length,hl],_,i,rfl,by omega,by unfold maxLen;omega,fun h=>(by cases h),.inr ⟨nb,0,rfl,rfl,heap_lt hAr,fun j u hu=>?_⟩⟩;rw[Nat.zero_add,cell_of hAr]
      simpa using hu
     have hV7:=hV.out.after hbr;have hK7:=hK.out.after hbr
     have hsn:∀ g,g=nb→¬ VolB wr v g:=fun g e hB=>by
      have:=VolB.lt hV.out (VolB.back hV.out (Chg.of_below hbr No) id hB);have:=hnb.out;omega
     have hw:=guWrite_ok hK7 hV7 hd hsn A N (by rw[hl];exact hn64.out) (by omega) (by omega) (by simp) (fun a ha=>by
      simp only[List.mem_singleton] at ha;subst ha;exact⟨by show (0:Int)≤p;omega,by show p≤1000000000;omega,by show (C:Int)≤1000000000;omega⟩)
     have B7:=LH (B.out.trans (hbr.mono B.out.size));have hVv:=fun g=>VolB.back (g:=g) hV.out (Chg.of_below hbr No) id
     have hVB7:=LH (fun g hg=>hVB.out g (hVv g hg));replace hw:=LH hw;replace hd:=LH hd;replace hl:=LH hl;replace hsn:=LH hsn;clear hVv hV7 hK7 HS hbr hAr
     go_wp2_with fail
     refine hw.out.mono ?_;rintro e w8 (⟨h,-⟩|⟨-,rfl,hV8,hK8,hC⟩)
     ·exact absurd (hov.symm.trans h) (by decide)
     have B8:=B7.out.trans (hC.below B7.out.size (fun g hg hB=>hB.elim (fun e=>by have:=hvl.out;omega) (fun e=>by have:=hkw.out;omega)));have ck:w8.cell? ⟨k,0,none⟩=some (.pointer (some ⟨v,0,none⟩)):=by obtain⟨g,cap,h1,_⟩:=hK8;exact cell_of h1 0
     have hrd:=voRead_ok hV8 A N (by omega) (fun p _=>bitB_zero p);rw[readL_nil] at hrd;clear hC;replace hrd:=LH hrd;replace hV8:=LH hV8;replace hK8:=LH hK8;replace B8:=LH B8;clear hw
     go_wp2_with fail
     refine hrd.out.mono ?_;rintro e w9 ⟨u,rfl,hu,hb⟩;replace B8:=LH (B8.out.trans (hb.mono B8.out.size));replace hK8:=LH (hK8.out.after hb)
     have hub:Bytes w9 (fun _=>True) u (List.replicate i 0):=by
      show Cells _ _ _ (List.replicate i (0:UInt8)).length 1 _;rw[List.length_replicate,hn64.out];exact (Cells.own hu).mono (fun _ _ _=>trivial)
     have hua:∃ ua un uc,u=.slice ua un uc:=by obtain⟨ua,uc,e,_⟩:=hub.shape;exact⟨_,_,_,e⟩
     obtain⟨ua,un,uc,rfl⟩:=hua;replace hub:=LH hub;clear hb hu hrd ck hd hsn
     go_wp2_with fail
     have hdr:∀ w3,Chg No w9.drew w3→Chg No w9 w3:=fun w3 h=>⟨h.os,h.tape,h.output,h.size,h.block⟩
     replace hdr:=LH hdr;have hkt:=LH (fun w3 (h:Chg No w9.drew w3)=>guTripped_ok (hK8.out.after (hdr.out _ h).no));refine RA.rt (Chg No) [1,1,1,1,1,1,1,3,1,1,1,1,1,4,1,1,4,1,1] [] (fun _=>True) trivial (fun _=>Chg.refl _ _) (fun _ _ _ h k=>h.trans k) (h:=?_);intro cx
     repeat (first|refine RA.qq (h:=?_)|refine RA.eq true (by kernel_rfl) (by rfl) (by rfl) (by rfl) (by rfl) ?_|refine RA.pt (by kernel_rfl) (by rfl) (by rfl) (by rfl) ?_|refine RA.es true (by kernel_rfl) (by rfl) (by rfl) (by rfl) (by simp) ?_|refine RA.nt (by kernel_rfl) (by rfl) (by rfl) ?_)
     refine RA.cv (by kernel_rfl) (by rfl) (by rfl) (fun w3 hp=>by exact run_string _ _ _ _ underlying42 underlying5 underlying9 _ _ _ (hub.out.chg (hdr.out _ hp.1) (fun _ _ _=>id))) ?_
     repeat (first|refine RA.qq (h:=?_)|refine RA.eq true (by kernel_rfl) (by rfl) (by rfl) (by rfl) (by rfl) ?_|refine RA.pt (by kernel_rfl) (by rfl) (by rfl) (by rfl) ?_|refine RA.es true (by kernel_rfl) (by rfl) (by rfl) (by rfl) (by simp) ?_|refine RA.nt (by kernel_rfl) (by rfl) (by rfl) ?_)
     refine RA.vk prog (.int .i64 i) (hr:=fun w hp=>by (try go_simp);(rw[IntKind.wrap_i64];omega)) (h:=?_)
     refine RA.bq (fun x w3=>Bytes w3 (fun _=>True) x (List.replicate i 0)) (fun _ _=>True) (by kernel_rfl) (by rfl) (by kernel_rfl) (fun _ _ _ h k=>k.chg h (fun _ _ _=>id)) (fun _ _ _ _ _=>trivial) (fun w3 hp _=>by
      have hm3:=hmk.out w3 i i rfl (by omega);refine⟨.slice (some ⟨w3.heap.size,0,none⟩) i i,w3.alloc (.cells (u8s (List.replicate i 0)).toArray 5),?_,(Chg.refl _ _).alloc _,?_,trivial⟩
      ·show (execOp _ _).run prog w3=_;go_simp
      ·have h:=(Cells.own (own_new w3 (u8s (List.replicate i 0)).toArray 5 i 1 (by simp[u8s_length]) (by unfold maxLen;omega) (Nat.zero_le _))).mono (S':=fun _=>True) (fun _ _ _=>trivial);show Cells _ _ _ (List.replicate i (0:UInt8)).length 1 _;rw[List.length_replicate];exact h) (fun x=>?_)
     refine RA.cv (by kernel_rfl) (by rfl) (by rfl) (fun w3 hp=>by have hb:=hp.fact 0 rfl (by kernel_rfl);exact run_string _ _ _ _ underlying42 underlying5 underlying9 _ _ _ hb) ?_
     repeat (first|refine RA.qq (h:=?_)|refine RA.eq true (by kernel_rfl) (by rfl) (by rfl) (by rfl) (by rfl) ?_|refine RA.pt (by kernel_rfl) (by rfl) (by rfl) (by rfl) ?_|refine RA.es true (by kernel_rfl) (by rfl) (by rfl) (by rfl) (by simp) ?_|refine RA.nt (by kernel_rfl) (by rfl) (by rfl) ?_)
     refine RA.kc (P:=prog) [.pointer (some ⟨k,0,none⟩)] (.bool true) (fun _=>True) (fun _ _=>by go_simp) (by kernel_rfl) (by rfl) (by rfl) (by kernel_rfl) (fun _ _ _ h=>h) rfl (fun w3 hp hH=>(hkt.out w3 hp.1).mono (by rintro e w4 ⟨rfl,rfl⟩;exact⟨rfl,Chg.refl _ _,trivial⟩)) ?_
     repeat (first|refine RA.qq (h:=?_)|refine RA.eq true (by kernel_rfl) (by rfl) (by rfl) (by rfl) (by rfl) ?_|refine RA.pt (by kernel_rfl) (by rfl) (by rfl) (by rfl) ?_|refine RA.es true (by kernel_rfl) (by rfl) (by rfl) (by rfl) (by simp) ?_|refine RA.nt (by kernel_rfl) (by rfl) (by rfl) ?_)
     refine RA.kc (P:=prog) [] (.bool true) (fun _=>True) (fun _ _=>by go_simp) (by kernel_rfl) (by rfl) (by rfl) (by kernel_rfl) (fun _ _ _ h=>h) rfl (fun w3 hp hH=>(haw.out w3).mono (by rintro e w4 ⟨rfl,h2⟩;exact⟨rfl,Chg.of_below h2 _,trivial⟩)) ?_
     repeat (first|refine RA.qq (h:=?_)|refine RA.eq true (by kernel_rfl) (by rfl) (by rfl) (by rfl) (by rfl) ?_|refine RA.pt (by kernel_rfl) (by rfl) (by rfl) (by rfl) ?_|refine RA.es true (by kernel_rfl) (by rfl) (by rfl) (by rfl) (by simp) ?_|refine RA.nt (by kernel_rfl) (by rfl) (by rfl) ?_)
     refine RA.RA.done rfl (fun w10 hR hF hH=>?_);clear hF hH;simp only[RA.put,List.foldr_cons,List.foldr_nil,cx,Act.put,List.setIfInBounds_toArray,List.set_cons_succ,List.set_cons_zero]
     try simp only[Bool.not_true]
     try simp only[Bool.not_false]
     have hfin:=LH (B8.out.trans ((hdr.out _ hR).no.mono B8.out.size));clear hR;go_wp2;go_ret;exact⟨rfl,hfin.out⟩
end Go.Proofs.YthmcbgidehjlbaaGreat.Fd
