import Derived.Test.YtlkfabkkjfmnmaaGreatDoorZaa
import Derived.Test.YtlkfabkkjfmnmaaGreatDoorZab
namespace Go.Proofs.YtlkfabkkjfmnmaaGreatDoor
open Go.RowKit
set_option linter.all false
set_option maxRecDepth 1000000
set_option maxHeartbeats 6000000
def lR (l:List UInt8):List Int:=l.map fun b=>(b.toNat:Int)
def io (c:Int)(f:List Int)(s:ByteArray)(m:Int):List Int:=(asc (gY f (lR s.data.toList) m) c).getD []
theorem cF (c m:Int)(a:Option Addr)(n cap:Nat)(f:List Int)(s:ByteArray)(w:World)(h:Rd w a n cap 1 (aE f))(hn:n<=1024)(hs:s.size=n)(hm:0<m) :
  Calls Tryz.prog 147 #[.int .i64 c,.slice a n cap,.string s,.int .i64 m] w fun e w' => ∃g cp,e=.returned (.slice (some ⟨g,0,none⟩) (io c f s m).length cp)/\Own 3 1 w.heap.size w (.slice (some ⟨g,0,none⟩) (io c f s m).length cp) (io c f s m).length (aE (io c f s m)) w':=by
 have hl:f.length=n:=by have:=h.len;simpa using this
 subst hl;go_enter Tryz.func147,Tryz.ntmps147
 go_wp2;go_loopg [9] f.length (fun gg i wr => ∃k:Nat,k+gg=f.length/\i=.int .i64 k/\(∀j (hj:j<k) (hf:j<f.length),f[j]≠c)/\wr=w)
 case atStart=>exact⟨0,by omega,rfl,(fun j hj=>by omega),rfl⟩
 case round =>
  obtain⟨k,hk,rfl,hno,rfl⟩:=hrel;have HN:=zH hno;clear hno;by_cases hlt:k<f.length
  ·obtain⟨b,off,rfl,hbs,hc⟩:=h.at' (by omega);have hc1:=hc k (by simpa using hlt);rw[br f k hlt] at hc1;clear hc h;have hks:k<s.size:=by omega
   by_cases he:f[k]=c
   ·have he':(f[k]==c)=true:=by simpa using he
    have hb0:s[k].toNat<256:=s[k].toNat_lt;have HR:Hid (io c f s m = [((s[k].toNat:Nat):Int),m]):=zH (by
     unfold io;rw[mu f (lR s.data.toList) m c k hlt (by simp[lR];omega) he (fun j hj=>HN.out j hj (by omega)),if_pos hm];simp[lR];rfl)
    clear he;go_wp2;go_ret;rw[HR.out];exact⟨_,_,rfl,Own.lit zB zN #[.int .i64 _,.int .i64 _] rfl (show 2<=maxLen by decide)⟩
   ·have he':(f[k]==c)=false:=by simpa using he
    have HE:=zH he;clear he;go_wp2;go_roundg (gk - 1)
    case measure=>omega
    case rel=>exact⟨k+1,by omega,by go_num,(fun j hj hf=>by
     by_cases e:j=k
     ·subst e;exact HE.out
     ·exact HN.out j (by omega) hf),rfl⟩
  ·have hkl:k=f.length:=by omega
   have HR:Hid (io c f s m = []):=zH (by
    unfold io;rw[kf f _ m c (fun hm=>by obtain⟨j,hj,e⟩:=List.getElem_of_mem hm;exact HN.out j (by omega) hj e)];rfl)
   subst hkl;go_wp2;go_ret;rw[HR.out];exact⟨_,_,rfl,Own.lit zB zN #[] rfl (by decide)⟩
def strS:List ByteArray:=[⟨#[65,69,73,79,85,97,101,105,111,117]⟩,⟨#[65,69,73,79,85,89,97,101,105,111,117,121]⟩,⟨#[65,69,73,79,85,97,101,105,111,117]⟩,⟨#[65,78,79,97,110,111]⟩,⟨#[65,69,73,79,85,97,101,105,111,117,121]⟩,⟨#[65,97]⟩,⟨#[67,99]⟩,⟨#[65,97]⟩]
theorem tg (k:Nat)(r:lc)(h:tabS[k]? = some r):(strS.getD k ⟨#[]⟩).size=r.1.length/\lR (strS.getD k ⟨#[]⟩).data.toList=r.2.1/\r.1.length<=12/\0<r.2.2/\r.2.2<=900:=by
 match k,h with
 | 0,h=>cases h;decide +kernel
 | 1,h=>cases h;decide +kernel
 | 2,h=>cases h;decide +kernel
 | 3,h=>cases h;decide +kernel
 | 4,h=>cases h;decide +kernel
 | 5,h=>cases h;decide +kernel
 | 6,h=>cases h;decide +kernel
 | 7,h=>cases h;decide +kernel
 | _+8,h=>simp[tabS] at h
theorem tq (f:List Int):∀(l:List Int) (m c:Int) (v:List Int),asc (gY f l m) c=some v->0<v.length/\v.length<=2:=by
 induction f with
 | nil=>intro l m c v h;cases l <;> cases h
 | cons a f ih =>
  intro l m c v h;cases l with
  | nil=>cases h
  | cons b l =>
   simp only[gY,asc] at h;split at h
   ·cases h;split <;> simp
   ·exact ih l m c v h
theorem rR {P:Program}{c:Code}{Q:Exit->Act->World->Prop}{a:Act}{W0:World}(F:World->Prop)(h:F W0)(k:∀W,F W->Code.wp P c Q a W):Code.wp P c Q a W0:=k W0 h
theorem c6 {w0:World}{e:TypeId}{size m b:Nat}{news:Array Value}(hb:b=w0.heap.size)(hl:news.size=m*size)(hm:m<=maxLen):Rd (w0.alloc (.cells news e)) (some ⟨b,0,none⟩) m m size news.toList:=by
 subst hb;exact aM hl hm
theorem bW {W:World}{b n cap size:Nat}{xs:List Value}(h:Rd W (some ⟨b,0,none⟩) n cap size xs)(h0:0<n)(j:Nat)(hj:j<xs.length):W.cell? ⟨b,j,none⟩=some xs[j]:=by
 obtain⟨b',off,e,_,hc⟩:=h.at' h0;cases e;have:=hc j hj;rwa [Nat.zero_add] at this
theorem Own.rebase {e:TypeId}{size B B1:Nat}{W W1 w:World}{v:Value}{n:Nat}{xs:List Value}(h:Own e size B1 W1 v n xs w)(hb:Below B W W1)(hB:B<=B1):Own e size B W v n xs w:=by
 refine⟨⟨h.row.1,?_⟩,hb.trans (h.below.mono hB),Nat.le_trans hB h.base⟩;rcases h.row.2 with hn|⟨g,cap,cur,rfl,hg,rest⟩
 ·exact .inl hn
 ·exact .inr ⟨g,cap,cur,rfl,Nat.le_trans hB hg,rest⟩
structure Laid (w W:World)(b8 b9 b10:Nat):Prop where
 below:Below w.heap.size w W
 row:∀k r,tabS[k]? = some r->∃b cp,W.cell? ⟨b8,k,none⟩=some (.slice (some ⟨b,0,none⟩) r.1.length cp)/\Rd W (some ⟨b,0,none⟩) r.1.length cp 1 (aE r.1)/\W.cell? ⟨b9,k,none⟩=some (.string (strS.getD k ⟨#[]⟩))/\W.cell? ⟨b10,k,none⟩=some (.int .i64 r.2.2)
theorem tk (w W1 W2 W3 W4 W5 W6 W7 W8 W9 W10 W11:World)
  (h1:W1=w.alloc (.cells #[.int .i64 192,.int .i64 200,.int .i64 204,.int .i64 210,.int .i64 217,.int .i64 224,.int .i64 232,.int .i64 236,.int .i64 242,.int .i64 249] 3))
  (h2:W2=W1.alloc (.cells #[.int .i64 193,.int .i64 201,.int .i64 205,.int .i64 211,.int .i64 218,.int .i64 221,.int .i64 225,.int .i64 233,.int .i64 237,.int .i64 243,.int .i64 250,.int .i64 253] 3))
  (h3:W3=W2.alloc (.cells #[.int .i64 194,.int .i64 202,.int .i64 206,.int .i64 212,.int .i64 219,.int .i64 226,.int .i64 234,.int .i64 238,.int .i64 244,.int .i64 251] 3))
  (h4:W4=W3.alloc (.cells #[.int .i64 195,.int .i64 209,.int .i64 213,.int .i64 227,.int .i64 241,.int .i64 245] 3))
  (h5:W5=W4.alloc (.cells #[.int .i64 196,.int .i64 203,.int .i64 207,.int .i64 214,.int .i64 220,.int .i64 228,.int .i64 235,.int .i64 239,.int .i64 246,.int .i64 252,.int .i64 255] 3))
  (h6:W6=W5.alloc (.cells #[.int .i64 197,.int .i64 229] 3))
  (h7:W7=W6.alloc (.cells #[.int .i64 199,.int .i64 231] 3))
  (h8:W8=W7.alloc (.cells #[.int .i64 7840,.int .i64 7841] 3))
  (h9:W9=W8.alloc (.cells #[.slice (some ⟨w.heap.size,0,none⟩) 10 10,.slice (some ⟨w.heap.size+1,0,none⟩) 12 12,.slice (some ⟨w.heap.size+1+1,0,none⟩) 10 10,.slice (some ⟨w.heap.size+1+1+1,0,none⟩) 6 6,.slice (some ⟨w.heap.size+1+1+1+1,0,none⟩) 11 11,.slice (some ⟨w.heap.size+1+1+1+1+1,0,none⟩) 2 2,.slice (some ⟨w.heap.size+1+1+1+1+1+1,0,none⟩) 2 2,.slice (some ⟨w.heap.size+1+1+1+1+1+1+1,0,none⟩) 2 2] 40))
  (h10:W10=W9.alloc (.cells #[.string ⟨#[65,69,73,79,85,97,101,105,111,117]⟩,.string ⟨#[65,69,73,79,85,89,97,101,105,111,117,121]⟩,.string ⟨#[65,69,73,79,85,97,101,105,111,117]⟩,.string ⟨#[65,78,79,97,110,111]⟩,.string ⟨#[65,69,73,79,85,97,101,105,111,117,121]⟩,.string ⟨#[65,97]⟩,.string ⟨#[67,99]⟩,.string ⟨#[65,97]⟩] 9))
  (h11:W11=W10.alloc (.cells #[.int .i64 768,.int .i64 769,.int .i64 770,.int .i64 771,.int .i64 776,.int .i64 778,.int .i64 807,.int .i64 803] 3))
  : Laid w W11 (w.heap.size+1+1+1+1+1+1+1+1) (w.heap.size+1+1+1+1+1+1+1+1+1) (w.heap.size+1+1+1+1+1+1+1+1+1+1):=by
 have s1:W1.heap.size=w.heap.size+1:=by rw[h1];simp
 have s2:W2.heap.size=w.heap.size+1+1:=by rw[h2];simp[s1]
 have s3:W3.heap.size=w.heap.size+1+1+1:=by rw[h3];simp[s2]
 have s4:W4.heap.size=w.heap.size+1+1+1+1:=by rw[h4];simp[s3]
 have s5:W5.heap.size=w.heap.size+1+1+1+1+1:=by rw[h5];simp[s4]
 have s6:W6.heap.size=w.heap.size+1+1+1+1+1+1:=by rw[h6];simp[s5]
 have s7:W7.heap.size=w.heap.size+1+1+1+1+1+1+1:=by rw[h7];simp[s6]
 have s8:W8.heap.size=w.heap.size+1+1+1+1+1+1+1+1:=by rw[h8];simp[s7]
 have s9:W9.heap.size=w.heap.size+1+1+1+1+1+1+1+1+1:=by rw[h9];simp[s8]
 have s10:W10.heap.size=w.heap.size+1+1+1+1+1+1+1+1+1+1:=by rw[h10];simp[s9]
 have s11:W11.heap.size=w.heap.size+1+1+1+1+1+1+1+1+1+1+1:=by rw[h11];simp[s10]
 have r0:Rd W1 (some ⟨w.heap.size,0,none⟩) 10 10 1 (#[.int .i64 192,.int .i64 200,.int .i64 204,.int .i64 210,.int .i64 217,.int .i64 224,.int .i64 232,.int .i64 236,.int .i64 242,.int .i64 249]:Array Value).toList:=by rw[h1];exact c6 (by rfl) rfl (by decide)
 replace r0:=r0.alloc (.cells #[.int .i64 193,.int .i64 201,.int .i64 205,.int .i64 211,.int .i64 218,.int .i64 221,.int .i64 225,.int .i64 233,.int .i64 237,.int .i64 243,.int .i64 250,.int .i64 253] 3);rw[←h2] at r0;replace r0:=r0.alloc (.cells #[.int .i64 194,.int .i64 202,.int .i64 206,.int .i64 212,.int .i64 219,.int .i64 226,.int .i64 234,.int .i64 238,.int .i64 244,.int .i64 251] 3);rw[←h3] at r0;replace r0:=r0.alloc (.cells #[.int .i64 195,.int .i64 209,.int .i64 213,.int .i64 227,.int .i64 241,.int .i64 245] 3);rw[←h4] at r0;replace r0:=r0.alloc (.cells #[.int .i64 196,.int .i64 203,.int .i64 207,.int .i64 214,.int .i64 220,.int .i64 228,.int .i64 235,.int .i64 239,.int .i64 246,.int .i64 252,.int .i64 255] 3);rw[←h5] at r0;replace r0:=r0.alloc (.cells #[.int .i64 197,.int .i64 229] 3);rw[←h6] at r0;replace r0:=r0.alloc (.cells #[.int .i64 199,.int .i64 231] 3);rw[←h7] at r0;replace r0:=r0.alloc (.cells #[.int .i64 7840,.int .i64 7841] 3);rw[←h8] at r0;replace r0:=r0.alloc (.cells #[.slice (some ⟨w.heap.size,0,none⟩) 10 10,.slice (some ⟨w.heap.size+1,0,none⟩) 12 12,.slice (some ⟨w.heap.size+1+1,0,none⟩) 10 10,.slice (some ⟨w.heap.size+1+1+1,0,none⟩) 6 6,.slice (some ⟨w.heap.size+1+1+1+1,0,none⟩) 11 11,.slice (some ⟨w.heap.size+1+1+1+1+1,0,none⟩) 2 2,.slice (some ⟨w.heap.size+1+1+1+1+1+1,0,none⟩) 2 2,.slice (some ⟨w.heap.size+1+1+1+1+1+1+1,0,none⟩) 2 2] 40);rw[←h9] at r0;replace r0:=r0.alloc (.cells #[.string ⟨#[65,69,73,79,85,97,101,105,111,117]⟩,.string ⟨#[65,69,73,79,85,89,97,101,105,111,117,121]⟩,.string ⟨#[65,69,73,79,85,97,101,105,111,117]⟩,.string ⟨#[65,78,79,97,110,111]⟩,.string ⟨#[65,69,73,79,85,97,101,105,111,117,121]⟩,.string ⟨#[65,97]⟩,.string ⟨#[67,99]⟩,.string ⟨#[65,97]⟩] 9);rw[←h10] at r0;replace r0:=r0.alloc (.cells #[.int .i64 768,.int .i64 769,.int .i64 770,.int .i64 771,.int .i64 776,.int .i64 778,.int .i64 807,.int .i64 803] 3);rw[←h11] at r0;have r1:Rd W2 (some ⟨w.heap.size+1,0,none⟩) 12 12 1 (#[.int .i64 193,.int .i64 201,.int .i64 205,.int .i64 211,.int .i64 218,.int .i64 221,.int .i64 225,.int .i64 233,.int .i64 237,.int .i64 243,.int .i64 250,.int .i64 253]:Array Value).toList:=by rw[h2];exact c6 (by rw[s1]) rfl (by decide)
 replace r1:=r1.alloc (.cells #[.int .i64 194,.int .i64 202,.int .i64 206,.int .i64 212,.int .i64 219,.int .i64 226,.int .i64 234,.int .i64 238,.int .i64 244,.int .i64 251] 3);rw[←h3] at r1;replace r1:=r1.alloc (.cells #[.int .i64 195,.int .i64 209,.int .i64 213,.int .i64 227,.int .i64 241,.int .i64 245] 3);rw[←h4] at r1;replace r1:=r1.alloc (.cells #[.int .i64 196,.int .i64 203,.int .i64 207,.int .i64 214,.int .i64 220,.int .i64 228,.int .i64 235,.int .i64 239,.int .i64 246,.int .i64 252,.int .i64 255] 3);rw[←h5] at r1;replace r1:=r1.alloc (.cells #[.int .i64 197,.int .i64 229] 3);rw[←h6] at r1;replace r1:=r1.alloc (.cells #[.int .i64 199,.int .i64 231] 3);rw[←h7] at r1;replace r1:=r1.alloc (.cells #[.int .i64 7840,.int .i64 7841] 3);rw[←h8] at r1;replace r1:=r1.alloc (.cells #[.slice (some ⟨w.heap.size,0,none⟩) 10 10,.slice (some ⟨w.heap.size+1,0,none⟩) 12 12,.slice (some ⟨w.heap.size+1+1,0,none⟩) 10 10,.slice (some ⟨w.heap.size+1+1+1,0,none⟩) 6 6,.slice (some ⟨w.heap.size+1+1+1+1,0,none⟩) 11 11,.slice (some ⟨w.heap.size+1+1+1+1+1,0,none⟩) 2 2,.slice (some ⟨w.heap.size+1+1+1+1+1+1,0,none⟩) 2 2,.slice (some ⟨w.heap.size+1+1+1+1+1+1+1,0,none⟩) 2 2] 40);rw[←h9] at r1;replace r1:=r1.alloc (.cells #[.string ⟨#[65,69,73,79,85,97,101,105,111,117]⟩,.string ⟨#[65,69,73,79,85,89,97,101,105,111,117,121]⟩,.string ⟨#[65,69,73,79,85,97,101,105,111,117]⟩,.string ⟨#[65,78,79,97,110,111]⟩,.string ⟨#[65,69,73,79,85,97,101,105,111,117,121]⟩,.string ⟨#[65,97]⟩,.string ⟨#[67,99]⟩,.string ⟨#[65,97]⟩] 9);rw[←h10] at r1;replace r1:=r1.alloc (.cells #[.int .i64 768,.int .i64 769,.int .i64 770,.int .i64 771,.int .i64 776,.int .i64 778,.int .i64 807,.int .i64 803] 3);rw[←h11] at r1;have r2:Rd W3 (some ⟨w.heap.size+1+1,0,none⟩) 10 10 1 (#[.int .i64 194,.int .i64 202,.int .i64 206,.int .i64 212,.int .i64 219,.int .i64 226,.int .i64 234,.int .i64 238,.int .i64 244,.int .i64 251]:Array Value).toList:=by rw[h3];exact c6 (by rw[s2]) rfl (by decide)
 replace r2:=r2.alloc (.cells #[.int .i64 195,.int .i64 209,.int .i64 213,.int .i64 227,.int .i64 241,.int .i64 245] 3);rw[←h4] at r2;replace r2:=r2.alloc (.cells #[.int .i64 196,.int .i64 203,.int .i64 207,.int .i64 214,.int .i64 220,.int .i64 228,.int .i64 235,.int .i64 239,.int .i64 246,.int .i64 252,.int .i64 255] 3);rw[←h5] at r2;replace r2:=r2.alloc (.cells #[.int .i64 197,.int .i64 229] 3);rw[←h6] at r2;replace r2:=r2.alloc (.cells #[.int .i64 199,.int .i64 231] 3);rw[←h7] at r2;replace r2:=r2.alloc (.cells #[.int .i64 7840,.int .i64 7841] 3);rw[←h8] at r2;replace r2:=r2.alloc (.cells #[.slice (some ⟨w.heap.size,0,none⟩) 10 10,.slice (some ⟨w.heap.size+1,0,none⟩) 12 12,.slice (some ⟨w.heap.size+1+1,0,none⟩) 10 10,.slice (some ⟨w.heap.size+1+1+1,0,none⟩) 6 6,.slice (some ⟨w.heap.size+1+1+1+1,0,none⟩) 11 11,.slice (some ⟨w.heap.size+1+1+1+1+1,0,none⟩) 2 2,.slice (some ⟨w.heap.size+1+1+1+1+1+1,0,none⟩) 2 2,.slice (some ⟨w.heap.size+1+1+1+1+1+1+1,0,none⟩) 2 2] 40);rw[←h9] at r2;replace r2:=r2.alloc (.cells #[.string ⟨#[65,69,73,79,85,97,101,105,111,117]⟩,.string ⟨#[65,69,73,79,85,89,97,101,105,111,117,121]⟩,.string ⟨#[65,69,73,79,85,97,101,105,111,117]⟩,.string ⟨#[65,78,79,97,110,111]⟩,.string ⟨#[65,69,73,79,85,97,101,105,111,117,121]⟩,.string ⟨#[65,97]⟩,.string ⟨#[67,99]⟩,.string ⟨#[65,97]⟩] 9);rw[←h10] at r2;replace r2:=r2.alloc (.cells #[.int .i64 768,.int .i64 769,.int .i64 770,.int .i64 771,.int .i64 776,.int .i64 778,.int .i64 807,.int .i64 803] 3);rw[←h11] at r2;have r3:Rd W4 (some ⟨w.heap.size+1+1+1,0,none⟩) 6 6 1 (#[.int .i64 195,.int .i64 209,.int .i64 213,.int .i64 227,.int .i64 241,.int .i64 245]:Array Value).toList:=by rw[h4];exact c6 (by rw[s3]) rfl (by decide)
 replace r3:=r3.alloc (.cells #[.int .i64 196,.int .i64 203,.int .i64 207,.int .i64 214,.int .i64 220,.int .i64 228,.int .i64 235,.int .i64 239,.int .i64 246,.int .i64 252,.int .i64 255] 3);rw[←h5] at r3;replace r3:=r3.alloc (.cells #[.int .i64 197,.int .i64 229] 3);rw[←h6] at r3;replace r3:=r3.alloc (.cells #[.int .i64 199,.int .i64 231] 3);rw[←h7] at r3;replace r3:=r3.alloc (.cells #[.int .i64 7840,.int .i64 7841] 3);rw[←h8] at r3;replace r3:=r3.alloc (.cells #[.slice (some ⟨w.heap.size,0,none⟩) 10 10,.slice (some ⟨w.heap.size+1,0,none⟩) 12 12,.slice (some ⟨w.heap.size+1+1,0,none⟩) 10 10,.slice (some ⟨w.heap.size+1+1+1,0,none⟩) 6 6,.slice (some ⟨w.heap.size+1+1+1+1,0,none⟩) 11 11,.slice (some ⟨w.heap.size+1+1+1+1+1,0,none⟩) 2 2,.slice (some ⟨w.heap.size+1+1+1+1+1+1,0,none⟩) 2 2,.slice (some ⟨w.heap.size+1+1+1+1+1+1+1,0,none⟩) 2 2] 40);rw[←h9] at r3;replace r3:=r3.alloc (.cells #[.string ⟨#[65,69,73,79,85,97,101,105,111,117]⟩,.string ⟨#[65,69,73,79,85,89,97,101,105,111,117,121]⟩,.string ⟨#[65,69,73,79,85,97,101,105,111,117]⟩,.string ⟨#[65,78,79,97,110,111]⟩,.string ⟨#[65,69,73,79,85,97,101,105,111,117,121]⟩,.string ⟨#[65,97]⟩,.string ⟨#[67,99]⟩,.string ⟨#[65,97]⟩] 9);rw[←h10] at r3;replace r3:=r3.alloc (.cells #[.int .i64 768,.int .i64 769,.int .i64 770,.int .i64 771,.int .i64 776,.int .i64 778,.int .i64 807,.int .i64 803] 3);rw[←h11] at r3;have r4:Rd W5 (some ⟨w.heap.size+1+1+1+1,0,none⟩) 11 11 1 (#[.int .i64 196,.int .i64 203,.int .i64 207,.int .i64 214,.int .i64 220,.int .i64 228,.int .i64 235,.int .i64 239,.int .i64 246,.int .i64 252,.int .i64 255]:Array Value).toList:=by rw[h5];exact c6 (by rw[s4]) rfl (by decide)
 replace r4:=r4.alloc (.cells #[.int .i64 197,.int .i64 229] 3);rw[←h6] at r4;replace r4:=r4.alloc (.cells #[.int .i64 199,.int .i64 231] 3);rw[←h7] at r4;replace r4:=r4.alloc (.cells #[.int .i64 7840,.int .i64 7841] 3);rw[←h8] at r4;replace r4:=r4.alloc (.cells #[.slice (some ⟨w.heap.size,0,none⟩) 10 10,.slice (some ⟨w.heap.size+1,0,none⟩) 12 12,.slice (some ⟨w.heap.size+1+1,0,none⟩) 10 10,.slice (some ⟨w.heap.size+1+1+1,0,none⟩) 6 6,.slice (some ⟨w.heap.size+1+1+1+1,0,none⟩) 11 11,.slice (some ⟨w.heap.size+1+1+1+1+1,0,none⟩) 2 2,.slice (some ⟨w.heap.size+1+1+1+1+1+1,0,none⟩) 2 2,.slice (some ⟨w.heap.size+1+1+1+1+1+1+1,0,none⟩) 2 2] 40);rw[←h9] at r4;replace r4:=r4.alloc (.cells #[.string ⟨#[65,69,73,79,85,97,101,105,111,117]⟩,.string ⟨#[65,69,73,79,85,89,97,101,105,111,117,121]⟩,.string ⟨#[65,69,73,79,85,97,101,105,111,117]⟩,.string ⟨#[65,78,79,97,110,111]⟩,.string ⟨#[65,69,73,79,85,97,101,105,111,117,121]⟩,.string ⟨#[65,97]⟩,.string ⟨#[67,99]⟩,.string ⟨#[65,97]⟩] 9);rw[←h10] at r4;replace r4:=r4.alloc (.cells #[.int .i64 768,.int .i64 769,.int .i64 770,.int .i64 771,.int .i64 776,.int .i64 778,.int .i64 807,.int .i64 803] 3);rw[←h11] at r4;have r5:Rd W6 (some ⟨w.heap.size+1+1+1+1+1,0,none⟩) 2 2 1 (#[.int .i64 197,.int .i64 229]:Array Value).toList:=by rw[h6];exact c6 (by rw[s5]) rfl (by decide)
 replace r5:=r5.alloc (.cells #[.int .i64 199,.int .i64 231] 3);rw[←h7] at r5;replace r5:=r5.alloc (.cells #[.int .i64 7840,.int .i64 7841] 3);rw[←h8] at r5;replace r5:=r5.alloc (.cells #[.slice (some ⟨w.heap.size,0,none⟩) 10 10,.slice (some ⟨w.heap.size+1,0,none⟩) 12 12,.slice (some ⟨w.heap.size+1+1,0,none⟩) 10 10,.slice (some ⟨w.heap.size+1+1+1,0,none⟩) 6 6,.slice (some ⟨w.heap.size+1+1+1+1,0,none⟩) 11 11,.slice (some ⟨w.heap.size+1+1+1+1+1,0,none⟩) 2 2,.slice (some ⟨w.heap.size+1+1+1+1+1+1,0,none⟩) 2 2,.slice (some ⟨w.heap.size+1+1+1+1+1+1+1,0,none⟩) 2 2] 40);rw[←h9] at r5;replace r5:=r5.alloc (.cells #[.string ⟨#[65,69,73,79,85,97,101,105,111,117]⟩,.string ⟨#[65,69,73,79,85,89,97,101,105,111,117,121]⟩,.string ⟨#[65,69,73,79,85,97,101,105,111,117]⟩,.string ⟨#[65,78,79,97,110,111]⟩,.string ⟨#[65,69,73,79,85,97,101,105,111,117,121]⟩,.string ⟨#[65,97]⟩,.string ⟨#[67,99]⟩,.string ⟨#[65,97]⟩] 9);rw[←h10] at r5;replace r5:=r5.alloc (.cells #[.int .i64 768,.int .i64 769,.int .i64 770,.int .i64 771,.int .i64 776,.int .i64 778,.int .i64 807,.int .i64 803] 3);rw[←h11] at r5;have r6:Rd W7 (some ⟨w.heap.size+1+1+1+1+1+1,0,none⟩) 2 2 1 (#[.int .i64 199,.int .i64 231]:Array Value).toList:=by rw[h7];exact c6 (by rw[s6]) rfl (by decide)
 replace r6:=r6.alloc (.cells #[.int .i64 7840,.int .i64 7841] 3);rw[←h8] at r6;replace r6:=r6.alloc (.cells #[.slice (some ⟨w.heap.size,0,none⟩) 10 10,.slice (some ⟨w.heap.size+1,0,none⟩) 12 12,.slice (some ⟨w.heap.size+1+1,0,none⟩) 10 10,.slice (some ⟨w.heap.size+1+1+1,0,none⟩) 6 6,.slice (some ⟨w.heap.size+1+1+1+1,0,none⟩) 11 11,.slice (some ⟨w.heap.size+1+1+1+1+1,0,none⟩) 2 2,.slice (some ⟨w.heap.size+1+1+1+1+1+1,0,none⟩) 2 2,.slice (some ⟨w.heap.size+1+1+1+1+1+1+1,0,none⟩) 2 2] 40);rw[←h9] at r6;replace r6:=r6.alloc (.cells #[.string ⟨#[65,69,73,79,85,97,101,105,111,117]⟩,.string ⟨#[65,69,73,79,85,89,97,101,105,111,117,121]⟩,.string ⟨#[65,69,73,79,85,97,101,105,111,117]⟩,.string ⟨#[65,78,79,97,110,111]⟩,.string ⟨#[65,69,73,79,85,97,101,105,111,117,121]⟩,.string ⟨#[65,97]⟩,.string ⟨#[67,99]⟩,.string ⟨#[65,97]⟩] 9);rw[←h10] at r6;replace r6:=r6.alloc (.cells #[.int .i64 768,.int .i64 769,.int .i64 770,.int .i64 771,.int .i64 776,.int .i64 778,.int .i64 807,.int .i64 803] 3);rw[←h11] at r6;have r7:Rd W8 (some ⟨w.heap.size+1+1+1+1+1+1+1,0,none⟩) 2 2 1 (#[.int .i64 7840,.int .i64 7841]:Array Value).toList:=by rw[h8];exact c6 (by rw[s7]) rfl (by decide)
 replace r7:=r7.alloc (.cells #[.slice (some ⟨w.heap.size,0,none⟩) 10 10,.slice (some ⟨w.heap.size+1,0,none⟩) 12 12,.slice (some ⟨w.heap.size+1+1,0,none⟩) 10 10,.slice (some ⟨w.heap.size+1+1+1,0,none⟩) 6 6,.slice (some ⟨w.heap.size+1+1+1+1,0,none⟩) 11 11,.slice (some ⟨w.heap.size+1+1+1+1+1,0,none⟩) 2 2,.slice (some ⟨w.heap.size+1+1+1+1+1+1,0,none⟩) 2 2,.slice (some ⟨w.heap.size+1+1+1+1+1+1+1,0,none⟩) 2 2] 40);rw[←h9] at r7;replace r7:=r7.alloc (.cells #[.string ⟨#[65,69,73,79,85,97,101,105,111,117]⟩,.string ⟨#[65,69,73,79,85,89,97,101,105,111,117,121]⟩,.string ⟨#[65,69,73,79,85,97,101,105,111,117]⟩,.string ⟨#[65,78,79,97,110,111]⟩,.string ⟨#[65,69,73,79,85,97,101,105,111,117,121]⟩,.string ⟨#[65,97]⟩,.string ⟨#[67,99]⟩,.string ⟨#[65,97]⟩] 9);rw[←h10] at r7;replace r7:=r7.alloc (.cells #[.int .i64 768,.int .i64 769,.int .i64 770,.int .i64 771,.int .i64 776,.int .i64 778,.int .i64 807,.int .i64 803] 3);rw[←h11] at r7;have r8:Rd W9 (some ⟨w.heap.size+1+1+1+1+1+1+1+1,0,none⟩) 8 8 1 (#[.slice (some ⟨w.heap.size,0,none⟩) 10 10,.slice (some ⟨w.heap.size+1,0,none⟩) 12 12,.slice (some ⟨w.heap.size+1+1,0,none⟩) 10 10,.slice (some ⟨w.heap.size+1+1+1,0,none⟩) 6 6,.slice (some ⟨w.heap.size+1+1+1+1,0,none⟩) 11 11,.slice (some ⟨w.heap.size+1+1+1+1+1,0,none⟩) 2 2,.slice (some ⟨w.heap.size+1+1+1+1+1+1,0,none⟩) 2 2,.slice (some ⟨w.heap.size+1+1+1+1+1+1+1,0,none⟩) 2 2]:Array Value).toList:=by rw[h9];exact c6 (by rw[s8]) rfl (by decide)
 replace r8:=r8.alloc (.cells #[.string ⟨#[65,69,73,79,85,97,101,105,111,117]⟩,.string ⟨#[65,69,73,79,85,89,97,101,105,111,117,121]⟩,.string ⟨#[65,69,73,79,85,97,101,105,111,117]⟩,.string ⟨#[65,78,79,97,110,111]⟩,.string ⟨#[65,69,73,79,85,97,101,105,111,117,121]⟩,.string ⟨#[65,97]⟩,.string ⟨#[67,99]⟩,.string ⟨#[65,97]⟩] 9);rw[←h10] at r8;replace r8:=r8.alloc (.cells #[.int .i64 768,.int .i64 769,.int .i64 770,.int .i64 771,.int .i64 776,.int .i64 778,.int .i64 807,.int .i64 803] 3);rw[←h11] at r8;have r9:Rd W10 (some ⟨w.heap.size+1+1+1+1+1+1+1+1+1,0,none⟩) 8 8 1 (#[.string ⟨#[65,69,73,79,85,97,101,105,111,117]⟩,.string ⟨#[65,69,73,79,85,89,97,101,105,111,117,121]⟩,.string ⟨#[65,69,73,79,85,97,101,105,111,117]⟩,.string ⟨#[65,78,79,97,110,111]⟩,.string ⟨#[65,69,73,79,85,97,101,105,111,117,121]⟩,.string ⟨#[65,97]⟩,.string ⟨#[67,99]⟩,.string ⟨#[65,97]⟩]:Array Value).toList:=by rw[h10];exact c6 (by rw[s9]) rfl (by decide)
 replace r9:=r9.alloc (.cells #[.int .i64 768,.int .i64 769,.int .i64 770,.int .i64 771,.int .i64 776,.int .i64 778,.int .i64 807,.int .i64 803] 3);rw[←h11] at r9;have r10:Rd W11 (some ⟨w.heap.size+1+1+1+1+1+1+1+1+1+1,0,none⟩) 8 8 1 (#[.int .i64 768,.int .i64 769,.int .i64 770,.int .i64 771,.int .i64 776,.int .i64 778,.int .i64 807,.int .i64 803]:Array Value).toList:=by rw[h11];exact c6 (by rw[s10]) rfl (by decide)
 refine⟨?_,?_⟩
 ·have b1:Below w.heap.size w W1:=by rw[h1];exact zB.alloc zN _
  have b2:Below w.heap.size w W2:=by rw[h2];exact b1.alloc b1.size _
  have b3:Below w.heap.size w W3:=by rw[h3];exact b2.alloc b2.size _
  have b4:Below w.heap.size w W4:=by rw[h4];exact b3.alloc b3.size _
  have b5:Below w.heap.size w W5:=by rw[h5];exact b4.alloc b4.size _
  have b6:Below w.heap.size w W6:=by rw[h6];exact b5.alloc b5.size _
  have b7:Below w.heap.size w W7:=by rw[h7];exact b6.alloc b6.size _
  have b8:Below w.heap.size w W8:=by rw[h8];exact b7.alloc b7.size _
  have b9:Below w.heap.size w W9:=by rw[h9];exact b8.alloc b8.size _
  have b10:Below w.heap.size w W10:=by rw[h10];exact b9.alloc b9.size _
  have b11:Below w.heap.size w W11:=by rw[h11];exact b10.alloc b10.size _
  exact b11
 ·intro k r h;match k,h with
  | 0,h=>cases h;exact⟨_,_,bW r8 (by omega) 0 (by simp),r0,bW r9 (by omega) 0 (by simp),bW r10 (by omega) 0 (by simp)⟩
  | 1,h=>cases h;exact⟨_,_,bW r8 (by omega) 1 (by simp),r1,bW r9 (by omega) 1 (by simp),bW r10 (by omega) 1 (by simp)⟩
  | 2,h=>cases h;exact⟨_,_,bW r8 (by omega) 2 (by simp),r2,bW r9 (by omega) 2 (by simp),bW r10 (by omega) 2 (by simp)⟩
  | 3,h=>cases h;exact⟨_,_,bW r8 (by omega) 3 (by simp),r3,bW r9 (by omega) 3 (by simp),bW r10 (by omega) 3 (by simp)⟩
  | 4,h=>cases h;exact⟨_,_,bW r8 (by omega) 4 (by simp),r4,bW r9 (by omega) 4 (by simp),bW r10 (by omega) 4 (by simp)⟩
  | 5,h=>cases h;exact⟨_,_,bW r8 (by omega) 5 (by simp),r5,bW r9 (by omega) 5 (by simp),bW r10 (by omega) 5 (by simp)⟩
  | 6,h=>cases h;exact⟨_,_,bW r8 (by omega) 6 (by simp),r6,bW r9 (by omega) 6 (by simp),bW r10 (by omega) 6 (by simp)⟩
  | 7,h=>cases h;exact⟨_,_,bW r8 (by omega) 7 (by simp),r7,bW r9 (by omega) 7 (by simp),bW r10 (by omega) 7 (by simp)⟩
  | _+8,h=>simp[tabS] at h
end Go.Proofs.YtlkfabkkjfmnmaaGreatDoor
