/- A part of the proof. No condition. -/
import Derived.Test.YtmdpbiocakjlkaaGreatDoorP4
set_option linter.unusedSimpArgs false
set_option linter.unusedVariables false
set_option linter.unusedSectionVars false
namespace Tb
open Go.Sx
def nM:Nat:=7
def GR:Nat:=8
def vW:Nat:=9
def rB:Nat:=10
def ud:Nat:=11
def Ac:Nat:=12
def Lw:Nat:=18
def jI:Nat:=26
def Am:Nat:=27
def uQ:Nat:=28
def cM:Nat:=29
def qJ:Nat:=30
def nN:Nat:=31
def mU:Nat:=32
def ph:Nat:=33
def DJ:Nat:=35
def cq:Nat:=36
def Aj:Nat:=41
def pK:Nat:=42
def rI:Nat:=60
def wi:Nat:=61
def rH:Nat:=62
def An:Nat:=63
def bE:Nat:=64
def bT:Nat:=65
def cY:Nat:=66
def cZ:Nat:=67
def df:Nat:=68
def ln:Nat:=71
def lp:Nat:=72
def sE:Nat:=73
def DL:Nat:=77
def xG:Nat:=85
def wj:Nat:=102
def G4:Nat:=103
def dK:Nat:=104
def Ao:Nat:=105
def Ah:Nat:=106
def ao:Nat:=107
def fq:Nat:=108
def aL:Nat:=109
def ah:Nat:=110
def uT:Nat:=111
def mW:Nat:=112
def hZ:Nat:=113
def fi:Nat:=114
def aS:Nat:=115
def pg:Nat:=116
def uU:Nat:=117
def pw:Nat:=118
def nR:Nat:=119
def Ap:Nat:=120
def mw:Nat:=121
def jL:Nat:=132
def pt:Nat:=133
def uV:Nat:=149
def cG:Nat:=150
def jM:Nat:=151
def rq:Nat:=152
def uq:Nat:=153
def fD:Nat:=154
def jQ:Nat:=155
def aJ:Nat:=156
def au:Nat:=157
def aP:Nat:=158
def cA:Nat:=159
def et:Nat:=160
def bF:Nat:=161
def cE:Nat:=162
def iw:Nat:=163
def iy:Nat:=164
def fL:Nat:=165
def vl:Nat:=211
def mX:Nat:=212
def mL:Nat:=213
def fF:Nat:=214
def uW:Nat:=215
def lq:Nat:=216
def jE:Nat:=217
def mY:Nat:=218
def jw:Nat:=219
def py:Nat:=220
def lu:Nat:=221
def ja:Nat:=222
def iT:Nat:=223
def dV:Nat:=224
def mZ:Nat:=225
def gX:Nat:=226
def lj:Nat:=259
def cL:Nat:=260
def DM:Nat:=261
def ML:List J:=[⟨k2,.new [.nils],none⟩]
def MM:List J:=[oM k7 k0,oC k8 uQ [k7],oC k9 Am [k8],oM k6 k9,oX bM k6 0,oX bW k6 1,oX cr k6 2,⟨k3,.new [.nils],none⟩,oS 1 k3 bM,oM k4 bW,oM k5 cr]
def MN:List J:=[oA cu 1 k3,oS 1 k2 cu]
def DN:eG:=⟨(.seq ML (.seq MM (.seq MN .ret))),[.cell k2 true 1]⟩
def B0:List J:=[oJ k4 (I 0)]
def pz:List J:=[oM k5 k0,⟨k6,.bin .lss k5 (I 0),none⟩]
def B3:List J:=[oM k7 k0,⟨k8,.bin .add k7 (I 1),none⟩,⟨k9,.un .neg k8,none⟩,oM k0 k9]
def pA:List J:=[oM bM k0,oM bW k1,⟨cr,.bin .rem bM bW,none⟩,oM k4 cr]
def wk:eG:=⟨(.seq B0 (.seq (.seq pz (.cond k6 B3 .skip)) (.seq pA .ret))),[.tmp k4]⟩
def Po:List J:=[⟨k2,.new [.nils],none⟩,oJ k3 (I 0),oJ k4 (I 0)]
def Ps:List J:=[oM cr k0,oC cu rI [cr],oM bW cu,oX bZ bW 0,oX cv bW 1,oX cK bW 2,oM k5 bZ,oM k6 cv,oM k7 cK]
def Fm:List J:=[oM cO k7,⟨dv,.bin .neq cO (I 0),none⟩]
def Pt:List J:=[⟨dx,.build [.nils] [],none⟩,oM db k6,oM dB k7,oS 1 k2 dx,oM k3 db,oM k4 dB]
def Pu:List J:=[oM cV k0,oM eH k5,⟨fh,.build [(.str 0 0),.nils,(I 0),(.bool false)] [(0,1,cV),(1,1,eH)],none⟩,oB ic fh,oM k8 ic]
def Pv:List J:=[⟨k9,.new [.nils],none⟩]
def jN:List bx:=[.L 0 (oM fJ k8),.L 1 (oN hU fJ),.L 2 (oF jm 2 hU),.L 3 (oL gu 1 jm),.L 4 (oM jK k8),.L 5 (oN mj jK),.L 6 (oF mu 1 mj),.L 7 (oL mv 1 mu),.L 8 (oZ jB mv),.L 9 ⟨mS,.bin .lss gu jB,none⟩,.L 10 (oM lY mS),.L 11 (oT iX k8 lY),.L 12 ⟨oK,.nilc iX,(lY,true)⟩,.L 13 ⟨qZ,.fieldA 3 oK,(lY,true)⟩,.L 14 ⟨jv,.load false 1 qZ,(lY,true)⟩,.L 15 ⟨q9,.un .not jv,(lY,true)⟩,.L 16 (oP qV lY q9)]
def Pw:List bx:=[.L 0 (oF qW 0 k9),.L 1 (oL qX 1 qW),.L 2 (oM sg k8),.H 3 (oC rC wi [sg]) [],.R [(1,oL qX 1 qW)],.A 4 ⟨vH,.bslice 45 1 [(I 0),(.str 0 0),(I 0),.nils,.nils,(I 0),(.str 0 0),.nils,(I 0),(.str 0 0),(I 0),.nils,.nils,.nils,(I 0),(I 0),(I 0),(.str 0 0),.nils,.nils,.nils,(I 0),.nils,.nils,.nils,.nils,(I 0),(.str 0 0),.nils,(I 0),(.str 0 0),(I 0),.nils,.nils,.nils,(I 0),.nils,.nils,(I 0),(.str 0 0),(I 0),.nils,.nils,.nils,(I 0)] [(0,45,rC)],none⟩,.H 5 ⟨vk,.append 45 qX vH,none⟩ [4],.R [],.L 6 (oF vF 0 k9),.H 7 (oS 1 vF vk) [4],.R []]
def Pz:U:=(.seq (.seq (.staged jN ⟨[fJ,hU,jm,gu,jK,mj,mu,mv,jB,mS,lY,iX,oK,qZ,jv,q9,qV],[]⟩) (.cond qV .skip (.exit 0))) (.block 1 (.staged Pw ⟨[qW,qX,sg,rC,vH,vk,vF],[]⟩)))
def Fo:List J:=[oA uD 1 k9,oC ue rH [uD],⟨bM,.new [(.bool false),(.bool false),(.bool false),(.bool false)],none⟩,oS 4 bM ue]
def Fs:List J:=[oM Ez k8,oF Le 0 bM,oL Lf 1 Le,oC Iz An [Ez,Lf],oM BD Iz,oX NT BD 0,oX H7 BD 1,oM k6 NT,oM k7 H7]
def uX:List J:=[oM Gt k7,⟨Lg,.bin .neq Gt (I 0),none⟩]
def B5:List J:=[⟨Mv,.build [.nils] [],none⟩,oM NU k6,oM NV k7,oS 1 k2 Mv,oM k3 NU,oM k4 NV]
def B6:List J:=[oA Om 1 k9,oS 1 k2 Om,oJ k3 (I 0),oJ k4 (I 0)]
def G5:eG:=⟨(.seq Po (.seq Ps (.seq (.seq Fm (.cond dv (.seq Pt .ret) .skip)) (.seq Pu (.seq Pv (.seq (.block 0 (.loop Pz)) (.seq Fo (.seq Fs (.seq (.seq uX (.cond Lg (.seq B5 .ret) .skip)) (.seq B6 .ret)))))))))),[.cell k2 true 1,.tmp k3,.tmp k4]⟩
def yL:List J:=[oJ k2 (.str 0 0)]
def yM:List J:=[oM k7 k0,oC k8 DJ [k7,(I 60)],⟨k9,.build [.nils,(I 0)] [(0,1,k8)],none⟩,oB bM k9,oM k3 bM]
def yN:List J:=[oJ k4 (.str 80 182339015806115267981690504437825014252752519173632756923371775538818044982487912086796230433300401641348655463546686888789589061055709237731263134259661917017269511739968816006670869899278708)]
def yO:List J:=[oM bW k4,⟨cr,.bin .add bW (.v (.str 95 242400390570448371950885050869961033292075858437333278135881313453219708828538149335400385361452885923842266288315248606436642298395278166741637990853543129384526369068055586511025348837751508184765413544444919360018170862531942)),none⟩,oM k4 cr]
def yP:List J:=[oM cu k4,⟨bZ,.bin .add cu (.v (.str 42 17630813516959311166135672515674225907770606714843221737536091935437821151332877851403155760149853542)),none⟩,oM cv k3,oC cK bE [cv,(I 1)],⟨cO,.bin .add bZ cK,none⟩,⟨dv,.bin .add cO (.v (.str 42 5595194057727887549840100743545936310362401078313415420158815384512292580375820390832630670184292411)),none⟩,oM k4 dv]
def yQ:List J:=[oM dx k4,⟨db,.bin .add dx (.v (.str 52 21265154866463767524674751458980856205058260195024700282338554234257724492122787811205817234845934336365379455627005237556582)),none⟩,oM dB k3,oC cV bE [dB,(I 2)],⟨eH,.bin .add db cV,none⟩,⟨fh,.bin .add eH (.v (.str 9 594776083178577862715)),none⟩,oM ic k3,oC fJ bE [ic,(I 3)],⟨hU,.bin .add fh fJ,none⟩,⟨jm,.bin .add hU (.v (.str 11 38979245390006111558901819)),none⟩,oM gu k3,oC jK bE [gu,(I 3)],⟨mj,.bin .add jm jK,none⟩,⟨mu,.bin .add mj (.v (.str 4 171670816)),none⟩,oM k4 mu]
def yR:List J:=[oM mv k4,⟨jB,.bin .add mv (.v (.str 29 869155694274933035662360577565048560167803707320894833373937105007974)),none⟩,oM mS k3,⟨lY,.bslice 1 2 [(.str 0 0)] [(0,1,(.v (.str 1 120))),(1,1,(.v (.str 1 121)))],none⟩,oC iX bT [mS,lY,(I 2)],⟨oK,.bin .add jB iX,none⟩,⟨qZ,.bin .add oK (.v (.str 2 2619)),none⟩,oM k4 qZ]
def yS:List J:=[oM jv k4,⟨q9,.bin .add jv (.v (.str 23 3087861278408820505839986626143530752162758300078601574)),none⟩,oM qV k3,⟨qW,.bslice 1 1 [(.str 0 0)] [(0,1,(.v (.str 1 120)))],none⟩,oC qX cY [qV,qW,(I 2)],⟨sg,.bin .add q9 qX,none⟩,⟨rC,.bin .add sg (.v (.str 2 2619)),none⟩,oM k4 rC]
def yT:List J:=[oM vH k4,⟨vk,.bin .add vH (.v (.str 29 875685032254460038033980230216562044410538666910606018415254702024039)),none⟩,oM vF k3,oC uD cq [vF,(I 3)],⟨ue,.bin .add (I 1) uD,none⟩,oC BD cZ [ue],⟨Ez,.bin .add vk BD,none⟩,⟨Le,.bin .add Ez (.v (.str 23 3106314249573315471151143905529882238060635434232324154)),none⟩,oM Lf k3,oC Iz bE [Lf,(I 3)],⟨NT,.bin .add Le Iz,none⟩,⟨H7,.bin .add NT (.v (.str 43 1432369678998094818601127721094043856737242469959618388723258747539157544125060190721856216924085624891)),none⟩,oM k4 H7]
def yU:List J:=[oM Gt k4,⟨Lg,.bin .add Gt (.v (.str 42 17624372441542039695824857495164279970484248069983699971379196365385930382965256472598223176757831015)),none⟩,oM Mv k3,oC NU cq [Mv,(I 2)],⟨NV,.bin .add (I 1) NU,none⟩,oC Om cZ [NV],⟨Rr,.bin .add Lg Om,none⟩,⟨Pb,.bin .add Rr (.v (.str 33 4681193151375983784321352956636219088701278493641259501819078695557996835840058)),none⟩,oM Mw k3,oC H8 bE [Mw,(I 2)],⟨Mx,.bin .add Pb H8,none⟩,⟨Lh,.bin .add Mx (.v (.str 6 11250618607913)),none⟩,oM k4 Lh]
def wm:List J:=[oM Pc k4,⟨Li,.bin .add Pc (.v (.str 29 873718671928016063895433924784385487656431549614784726834569632703847)),none⟩,oM Pd k3,oC NW cq [Pd,(I 3)],⟨Se,.bin .add (I 1) NW,none⟩,oC Sf cZ [Se],⟨Uz,.bin .add Li Sf,none⟩,⟨VL,.bin .add Uz (.v (.str 70 150846133387941433442388388326400802338128297114433201514913475158795177782681047903587049301048862873744097579727592445982142049192112809031631493268747340326667042080)),none⟩,oM k4 VL]
def wo:List J:=[oM UA k4,⟨Vq,.bin .add UA (.v (.str 25 203722621511111086895953407635140705508232400588638977418599)),none⟩,oM Ly k3,oC Vr bE [Ly,(I 1)],⟨Ww,.bin .add Vq Vr,none⟩,⟨VM,.bin .add Ww (.v (.str 11 48873936935729753228455470)),none⟩,oM VN k3,oC Sh bE [VN,(I 2)],⟨XY,.bin .add VM Sh,none⟩,⟨XZ,.bin .add XY (.v (.str 3 670505)),none⟩,oM k4 XZ]
def wq:List J:=[oM Xi k4,⟨X7,.bin .add Xi (.v (.str 59 2199798569449508809620815511719387556690466736766896460201503956924426167877279878805878642855344705385308823251918083637774492301809557595495)),none⟩,oM X8 k3,oC UB cq [X8,(I 2)],⟨VO,.bin .add (I 2) UB,none⟩,oC YO cZ [VO],⟨Z9,.bin .add X7 YO,none⟩,⟨k96,.bin .add Z9 (.v (.str 19 228178853546800958996147764136602831386732832)),none⟩,oM k4 k96]
def wu:List J:=[oM YP k4,⟨VP,.bin .add YP (.v (.str 78 8747977311226605203542139338950774854349271139885704743113821981039083314086945270975935573263648089577198722233672435644332691246963632707476606577983434286640195259817076780794729427568)),none⟩,oM YQ k3,oC yK bE [YQ,(I 2)],⟨AZ,.bin .add VP yK,none⟩,⟨qY,.bin .add AZ (.v (.str 25 202368730071743263691474316272767757127737348815128510013499)),none⟩,oM BR k3,oC Dy bE [BR,(I 4)],⟨BS,.bin .add qY Dy,none⟩,⟨DB,.bin .add BS (.v (.str 66 36001652380219020605076551505560526717286560982196999667637188056831645501986471993804814901609755647146717588056015389605856231341526436049335192156903776315)),none⟩,oM k4 DB]
def wx:List J:=[oM DC k4,⟨wa,.bin .add DC (.v (.str 56 91521674614939283628763356038963437721081525656813862749381874794550709584837648993350139074366327199710574075193165707022358713168496)),none⟩,oM BT k3,oC EW cq [BT,(I 2)],⟨DD,.bin .add (I 2) EW,none⟩,oC BU cZ [DD],⟨AY,.bin .add wa BU,none⟩,⟨DG,.bin .add AY (.v (.str 27 13260654617769022839912575098037706591065773117750630856340434720)),none⟩,oM Gu k3,oC Gv bE [Gu,(I 9)],⟨NX,.bin .add DG Gv,none⟩,⟨EX,.bin .add NX (.v (.str 48 1614369926229653798575554273203959196997034785634391259371191593103948285679822505488379300596185971438430391050299)),none⟩,oM k4 EX]
def wy:List J:=[oM Je k4,⟨Lz,.bin .add Je (.v (.str 69 1855904265024601878720904010977692236782456785180999217574220966002001945086923028430744191976544518575091647367766556608642907650441713747070090187999526282299667056)),none⟩,oM Jf k3,⟨DH,.bslice 1 2 [(.str 0 0)] [(0,1,(.v (.str 1 120))),(1,1,(.v (.str 8 2982271794426110835)))],none⟩,oC EY cY [Jf,DH,(I 2)],⟨Jg,.bin .add Lz EY,none⟩,⟨RC,.bin .add Jg (.v (.str 25 65839095647929650649230385922560348635700846742140755320891)),none⟩,oM k4 RC]
def wz:List J:=[oM RD k4,⟨VQ,.bin .add RD (.v (.str 105 923171345444115715279914311251186393619839798422410652080359215873654028080590446989935895403718291996696574674079448782170389644903561253974845609040687299003976399489425950508493317378970122250953989588633529022490442911092997004209890557724290151024)),none⟩,oM TA k3,oC RE cq [TA,(I 4)],⟨RF,.bin .add (I 1) RE,none⟩,oC VR cZ [RF],⟨Gy,.bin .add VQ VR,none⟩,⟨RG,.bin .add Gy (.v (.str 31 18532057919388531198352030202864075793868107785192778264657546338925486139)),none⟩,oM k4 RG]
def wA:List J:=[oM TB k4,⟨RH,.bin .add TB (.v (.str 60 493127846695493671584309871880359282962020147318037448972193036874855457168846014099968608888209460937627525680641628313314108772204907024314992)),none⟩,oM TC k3,oC Jh cq [TC,(I 3)],⟨VS,.bin .add (I 1) Jh,none⟩,oC VT cZ [VS],⟨TH,.bin .add RH VT,none⟩,⟨LB,.bin .add TH (.v (.str 10 49531830340858010214441)),none⟩,oM k4 LB]
def wB:List J:=[oM VU k4,⟨Xj,.bin .add VU (.v (.str 175 1133649114350938762955637564981500481033756643441594020735210057587345628190314741660211533182019203353007512747638331247375086667490465551541405128821534119814685819986279168465657392150115261252520054140347557515484772694946321511084441989374802569318596290300538787022329901748974831916596474792808326074930605934278629868963325788125688445864321140540717831852218107411853302167963160554282404535726285004904222453613)),none⟩,oM k4 Xj]
def wC:List J:=[oM VV k3,⟨YS,.bslice 1 4 [(.str 0 0)] [(0,1,(.v (.str 26 95067885820628404988880426502098583885435520868756988075799667))),(1,1,(.v (.str 46 138941906620721152011414356816098914323633161783372939296814538757119633060478175089730971849415338281373365363))),(2,1,(.v (.str 37 29552123331201107846288453554526192735537746863860156791328984907258631740988473886471283))),(3,1,(.v (.str 26 95067885820628404988880426502098583885435520868756988075799667)))],none⟩,oC YT df [VV,YS],oM k5 YT]
def wD:List J:=[oM YU k4,⟨aaq,.bin .add YU (.v (.str 57 23608419168439401298305421729180569487127571935976064171038977312927607667486445447057503992971070975184618063429655657636111722824825203)),none⟩,oM PI k3,⟨aca,.bslice 1 3 [(.str 0 0)] [(0,1,(.v (.str 19 1319936304175125151166898873531993380459213939))),(1,1,(.v (.str 19 1319936304175125151166898873531993380459213939))),(2,1,(.v (.str 57 43022965504886363945246762546480281017649169408355286030470596569879069509566987535847904213615349577492151128546307203829055027144914035)))],none⟩,oC adI df [PI,aca],⟨adJ,.bin .add aaq adI,none⟩,⟨acb,.bin .add adJ (.v (.str 14 658792124583422642804237124271392)),none⟩,oM acd k5,⟨ace,.bin .add acb acd,none⟩,⟨acf,.bin .add ace (.v (.str 5 45048954144)),none⟩,oM k4 acf]
def wE:List J:=[oM adK k4,⟨YV,.bin .add adK (.v (.str 223 44668049508446143504032148005410368015232833302116540406590816940612002862210624388055166208729146218194150131021090283340236276024666670726104380813560504481026882059219472472985340395160766221502207119792380865066182019147420306929188783492488544981900775165854799647850755669427666933959350726654888367937553089912716941631614072379962510036988683150587516066156051593734096364077949526066028781810037138661192508385889341811001312519978485296244351463729134975672542309127521630706002964015912827019066585734317416455564103487090541)),none⟩,oM k4 YV]
def wG:List J:=[oM adL k3,⟨acg,.bslice 1 4 [(.str 0 0)] [(0,1,(.v (.str 18 5156341465175768874117069934607604679799923))),(1,1,(.v (.str 29 1595810388991960012170694406301795069956373556826004271332397727183987))),(2,1,(.v (.str 29 1595810388992131651671271385856313181391860960698813192366104668107891))),(3,1,(.v (.str 45 545391338663372117477376464250902119640064407395424165658102675558809813285909297859450371620181422933111923)))],none⟩,oC adM df [adL,acg],oM k6 adM]
def wH:List J:=[oM YW k4,⟨ach,.bin .add YW (.v (.str 32 14676131989434546442361094030128172871822772540656785016414043200476060809587)),none⟩,oM aci k3,⟨acj,.bslice 1 2 [(.str 0 0)] [(0,1,(.v (.str 1 48))),(1,1,(.v (.str 1 115)))],none⟩,oC adN df [aci,acj],⟨adO,.bin .add ach adN,none⟩,⟨YX,.bin .add adO (.v (.str 14 658792124583109697236280356666144)),none⟩,oM ack k6,⟨adP,.bin .add YX ack,none⟩,⟨acm,.bin .add adP (.v (.str 84 802863977222833253000662597483595899684846964927411216718103966782225886752434225789372691247510272503557491541401717654235551548713805152173594189708427824347382147878298350856355739544245536095763744)),none⟩,oM k4 acm]
def wI:List J:=[oM acn k4,oM k2 acn]
def uf:eG:=⟨(.seq yL (.seq yM (.seq yN (.seq yO (.seq yP (.seq yQ (.seq yR (.seq yS (.seq yT (.seq yU (.seq wm (.seq wo (.seq wq (.seq wu (.seq wx (.seq wy (.seq wz (.seq wA (.seq wB (.seq wC (.seq wD (.seq wE (.seq wG (.seq wH (.seq wI .ret))))))))))))))))))))))))),[.tmp k2]⟩
def Sl:List J:=[oJ k4 .nils]
def Sm:List J:=[oJ k5 .nils]
def ug:List J:=[oM k6 k5,oM k7 k0,oM k8 k0,oZ k9 k8,oM bM k1,⟨bW,.mx false k9 bM,none⟩,⟨cr,.sliceL 1 k7 none bW,none⟩,⟨cu,.append 1 k6 cr,none⟩,oM k4 cu]
def LC:eG:=⟨(.seq Sl (.seq Sm (.seq ug .ret))),[.tmp k4]⟩
def MO:List J:=[oJ k4 (I 0)]
def MP:List J:=[oM k5 k0,oN k6 k5,oF k7 1 k6,oL k8 1 k7,⟨k9,.bin .add k8 (I 1),none⟩,oN bM k5,oF bW 1 bM,oS 1 bW k9]
def MQ:List bx:=[.L 0 (oM cr k0),.L 1 (oN cu cr),.L 2 (oF bZ 0 cu),.L 3 (oL cv 1 bZ),.L 4 (oM cK k0),.L 5 (oN cO cK),.L 6 (oF dv 1 cO),.L 7 (oL dx 1 dv),.L 8 ⟨db,.bin .sub dx (I 1),none⟩,.L 9 (oM dB k1),.H 10 (oC cV DL [cv,db,dB]) [],.R [],.L 11 (oM k4 cV)]
def DO:eG:=⟨(.seq MO (.seq MP (.seq (.staged MQ ⟨[cr,cu,bZ,cv,cK,cO,dv,dx,db,dB,cV,k4],[]⟩) .ret))),[.tmp k4]⟩
def MR:List J:=[oJ k2 .nils,oJ k3 (I 0),oJ k4 (I 0)]
def B7:List J:=[oM bM k0,⟨bW,.lenS bM,none⟩,⟨cr,.bin .gtr bW (I 8192),none⟩]
def MS:List J:=[oJ k2 .nils,oJ k3 (I 0),oJ k4 (I 4)]
def MT:List J:=[oJ k5 .nils]
def MU:List J:=[oM cu k0,oC bZ wj [cu,(I 0)],oM k6 bZ]
def B8:List J:=[oM cv k6,oM cK k0,⟨cO,.lenS cK,none⟩,⟨dv,.bin .lss cv cO,none⟩]
def MV:List J:=[oM dx k0,oM db k6,oC dB G4 [dx,db],oM k7 dB]
def B9:List J:=[oM cV k7,oM eH k6,⟨fh,.bin .eql cV eH,none⟩]
def MW:List J:=[oM ic k6,oJ k2 .nils,oM k3 ic,oJ k4 (I 2)]
def MX:List J:=[oM fJ k6,oM hU k0,oM jm k6,oM gu k7,⟨jK,.sliceS hU jm gu,none⟩,⟨mj,.build [(I 0),(I 0),(I 0),(.str 0 0)] [(0,1,(I 3)),(1,1,fJ),(3,1,jK)],none⟩,⟨k8,.new [(I 0),(I 0),(I 0),(.str 0 0)],none⟩,oS 4 k8 mj]
def Jl:List J:=[oM mu k0,oM mv k6,⟨jB,.indexS mu mv,none⟩,oC mS dK [jB],oM k9 mS]
def sG:List J:=[oM lY k9,⟨iX,.bin .geq lY (I 1),none⟩,oM oK iX,oT qZ k9 oK,⟨jv,.bin .leq qZ (I 3),(oK,true)⟩,oP q9 oK jv]
def Jm:List J:=[oM qV k9,⟨qW,.bin .sub qV (I 1),none⟩,oF qX 0 k8,oS 1 qX qW]
def sH:List J:=[oM sg k9,oE rC sg 3]
def yV:List J:=[oF vH 3 k8,oL vk 1 vH,oC vF Ao [vk],oF uD 2 k8,oS 1 uD vF]
def dR:List J:=[oM ue k9,⟨BD,.bin .leq ue (I 2),none⟩,oM Ez BD,⟨Le,.fieldA 3 k8,(Ez,true)⟩,⟨Lf,.load false 1 Le,(Ez,true)⟩,⟨Iz,.lenS Lf,(Ez,true)⟩,⟨NT,.bin .gtr Iz (I 16),(Ez,true)⟩,oP H7 Ez NT,oM Gt H7,⟨Lg,.fieldA 2 k8,(Gt,false)⟩,⟨Mv,.load false 1 Lg,(Gt,false)⟩,⟨NU,.bin .gtr Mv (I 1099511627776),(Gt,false)⟩,⟨NV,.pick Gt (.v (.bool true)) NU,none⟩]
def ng:List J:=[oM Om k6,oJ k2 .nils,oM k3 Om,oJ k4 (I 4)]
def jx:List J:=[oM Rr k5,oA Pb 4 k8,⟨Mw,.bslice 4 1 [(I 0),(I 0),(I 0),(.str 0 0)] [(0,4,Pb)],none⟩,⟨H8,.append 4 Rr Mw,none⟩,oM k5 H8]
def jy:List J:=[oM Mx k0,oM Lh k7,oC Pc wj [Mx,Lh],oM k6 Pc]
def MY:U:=(.seq (.seq B8 (.cond dv .skip (.exit 0))) (.block 1 (.seq MV (.seq (.seq B9 (.cond fh (.seq MW .ret) .skip)) (.seq MX (.seq Jl (.seq (.seq sG (.cond q9 Jm .skip)) (.seq (.seq sH (.cond rC yV .skip)) (.seq (.seq dR (.cond NV (.seq ng .ret) .skip)) (.seq jx jy))))))))))
def gY:List J:=[oM Li k5,oM k2 Li,oJ k3 (I 0),oJ k4 (I 0)]
def DP:eG:=⟨(.seq MR (.seq (.seq B7 (.cond cr (.seq MS .ret) .skip)) (.seq MT (.seq MU (.seq (.block 0 (.loop MY)) (.seq gY .ret)))))),[.tmp k2,.tmp k3,.tmp k4]⟩
def MZ:List J:=[⟨k2,.new [(I 0),(.str 0 0),(I 0),.nils,.nils,(I 0),(.str 0 0),.nils,(I 0),(.str 0 0),(I 0),.nils,.nils,.nils,(I 0),(I 0),(I 0),(.str 0 0),.nils,.nils,.nils,(I 0),.nils,.nils,.nils,.nils,(I 0),(.str 0 0),.nils,(I 0),(.str 0 0),(I 0),.nils,.nils,.nils,(I 0),.nils,.nils,(I 0),(.str 0 0),(I 0),.nils,.nils,.nils,(I 0)],none⟩]
def M3:List J:=[⟨k6,.build [(I 0),(.str 0 0),(I 0),.nils,.nils,(I 0),(.str 0 0),.nils,(I 0),(.str 0 0),(I 0),.nils,.nils,.nils,(I 0),(I 0),(I 0),(.str 0 0),.nils,.nils,.nils,(I 0),.nils,.nils,.nils,.nils,(I 0),(.str 0 0),.nils,(I 0),(.str 0 0),(I 0),.nils,.nils,.nils,(I 0),.nils,.nils,(I 0),(.str 0 0),(I 0),.nils,.nils,.nils,(I 0)] [(0,1,(I (-1)))],none⟩,⟨k3,.new [(I 0),(.str 0 0),(I 0),.nils,.nils,(I 0),(.str 0 0),.nils,(I 0),(.str 0 0),(I 0),.nils,.nils,.nils,(I 0),(I 0),(I 0),(.str 0 0),.nils,.nils,.nils,(I 0),.nils,.nils,.nils,.nils,(I 0),(.str 0 0),.nils,(I 0),(.str 0 0),(I 0),.nils,.nils,.nils,(I 0),.nils,.nils,(I 0),(.str 0 0),(I 0),.nils,.nils,.nils,(I 0)],none⟩,oS 45 k3 k6]
def M4:List J:=[oC k7 Ah [],oM k4 k7]
def M5:List J:=[oJ k5 (I 0)]
def uY:List J:=[oM k8 k5,oM k9 k4,oZ bM k9,⟨bW,.bin .lss k8 bM,none⟩,oM cr bW,⟨cu,.fieldA 0 k3,(cr,true)⟩,⟨bZ,.load false 1 cu,(cr,true)⟩,⟨cv,.bin .lss bZ (I 0),(cr,true)⟩,oP cK cr cv]
def M9:List J:=[oM dx k0,oM db k4,oM dB k5,oI cV 1 db dB,oL eH 1 cV,oC fh ao [dx,eH]]
def Na:List J:=[oM ic k5,oF fJ 0 k3,oS 1 fJ ic]
def Ca:List J:=[oM cO k5,⟨dv,.bin .add cO (I 1),none⟩,oM k5 dv]
def Nb:U:=(.seq (.seq uY (.cond cK .skip (.exit 0))) (.seq (.block 1 (.seq M9 (.cond fh Na .skip))) Ca))
def uZ:List J:=[oF hU 0 k3,oL jm 1 hU,⟨gu,.bin .lss jm (I 0),none⟩]
def Cb:List J:=[oM jK k0,oN mj jK,oF mu 3 mj,⟨none,.store 1 mu (.v (.bool true)),none⟩]
def sI:List J:=[oA mv 45 k3,oS 45 k2 mv]
def yW:List J:=[oM jB k0,oC mS fq [jB],oF lY 2 k3,oS 1 lY mS]
def sJ:List J:=[oF iX 0 k3,oL oK 1 iX,oE qZ oK 0]
def yX:List J:=[oM jv k0,oC q9 aL [jv,(I 1)],⟨qV,.field false 3 1 q9,none⟩,oF qW 1 k3,oS 1 qW qV]
def yY:List J:=[oM qX k0,oC sg aL [qX,(I 0)],⟨rC,.field false 3 1 sg,none⟩,oF vH 1 k3,oS 1 vH rC]
def nh:List J:=[oF vk 0 k3,oL vF 1 vk]
def eQ:List J:=[oE ue vF 0,oM uD ue]
def yZ:List J:=[oM BD k0,oC Ez ah [BD,(.v (.str 1 61))]]
def y0:List J:=[oM Le k0,oC Lf uT [Le],oF Iz 3 k3,oS 1 Iz Lf]
def y7:List J:=[oM NT k0,oC H7 ah [NT,(.v (.str 1 59))]]
def gZ:List J:=[oE Lg vF 1,oM Gt Lg]
def jz:List J:=[oE Mv vF 2,oM Gt Mv]
def y8:List J:=[oM NU k0,oC NV mW [NU],oF Om 4 k3,oS 1 Om NV]
def za:List J:=[oM Rr k0,oC Pb ah [Rr,(.v (.str 1 58))]]
def zb:List J:=[oM Mw k0,oC H8 hZ [Mw],oF Mx 5 k3,oS 3 Mx H8]
def sK:List J:=[oF Lh 0 k3,oL Pc 1 Lh,oE Li Pc 2,oM Pd Li,oT NW k0 Pd,⟨Se,.callF ao [NW,(.v (.str 5 448630121828))],(Pd,true)⟩,oP Sf Pd Se]
def zc:List J:=[oM Uz k0,oC VL aL [Uz,(I 2)],⟨UA,.field false 2 1 VL,none⟩,oF Vq 15 k3,oS 1 Vq UA]
def sL:List J:=[oM Ly k0,oC Vr ah [Ly,(.v (.str 1 61))]]
def nj:List J:=[oF Ww 0 k3,oL VM 1 Ww,oE VN VM 2]
def sM:List J:=[oM Sh k0,oC XY fi [Sh],oF XZ 16 k3,oS 6 XZ XY]
def sN:List J:=[oM Xi k0,oC X7 aS [Xi],oF X8 8 k3,oS 7 X8 X7]
def nq:List J:=[oM UB k0,oC VO ah [UB,(.v (.str 1 59))]]
def nr:List J:=[oE Z9 vF 3,oM YO Z9]
def ze:List J:=[oM k96 k0,oC YP pg [k96,(.v (.bool false))],oF VP 22 k3,oS 1 VP YP]
def zg:List J:=[oM YQ k0,oC yK uU [YQ,k3]]
def sO:List J:=[oE qY vF 4,oM AZ qY]
def zh:List J:=[oM BR k0,oC Dy pw [BR,k3]]
def zi:List J:=[oM BS k0,oC DB nR [BS,k3]]
def zj:List J:=[oE wa vF 5,oM DC wa]
def zk:List J:=[oM BT k0,oC EW pw [BT,k3]]
def zm:List J:=[oM DD k0,oC BU ah [DD,(.v (.str 7 32199706694346098))]]
def zn:List J:=[oM AY k0,oC DG aS [AY],oF Gu 38 k3,oS 7 Gu DG]
def zo:List J:=[oM Gv k0,oC NX Ap [Gv,k3]]
def gW:List J:=[oA EX 45 k3,oS 45 k2 EX]
def DQ:eG:=⟨(.seq MZ (.seq M3 (.seq M4 (.seq (.seq M5 (.block 0 (.loop Nb))) (.seq (.seq uZ (.cond gu (.seq Cb (.seq sI .ret)) .skip)) (.seq yW (.seq (.seq sJ (.cond qZ yX yY)) (.seq (.seq nh (.block 2 (.seq eQ (.cond uD (.seq yZ (.seq y0 y7)) (.seq (.seq gZ (.cond Gt .skip jz)) (.cond Gt (.seq y8 (.seq za (.seq zb (.seq (.seq sK (.cond Sf zc .skip)) (.seq sL (.seq (.seq nj (.cond VN sM sN)) nq)))))) (.seq nr (.cond YO (.seq ze zg) (.seq sO (.cond AZ (.seq zh zi) (.seq zj (.cond DC (.seq zk (.seq zm (.seq zn zo))) .skip)))))))))))) (.seq gW .ret))))))))),[.cell k2 true 45]⟩
def MK:List J:=[oB k1 k0,⟨k2,.new [(.bool false),(.bool false),(.bool false),(.bool false)],none⟩]
def uP:List J:=[oF k5 0 k1,oL k6 1 k5,oZ k7 k6,⟨k8,.bin .gtr k7 (I 64),none⟩,⟨k9,.build [(.bool false),(.bool false),(.bool false),(.bool false)] [(0,1,k8)],none⟩,oB bM k9,oM k3 bM]
def BW:List J:=[oJ k4 (I 0)]
def kU:List J:=[oM bW k4,oF cr 0 k1,oL cu 1 cr,oZ bZ cu,⟨cv,.bin .lss bW bZ,none⟩]
def BY:List J:=[oM dv k3,oF dx 0 k1,oL db 1 dx,oM dB k4,oI cV 45 db dB,oA eH 45 cV,oC fh mw [dv,eH]]
def BZ:List J:=[oM cK k4,⟨cO,.bin .add cK (I 1),none⟩,oM k4 cO]
def BX:U:=(.seq (.seq kU (.cond cv .skip (.exit 0))) (.seq (.block 1 BY) BZ))
def uO:List J:=[oM ic k3,oN fJ ic,oA hU 4 fJ,oS 4 k2 hU]
def DI:eG:=⟨(.seq MK (.seq uP (.seq (.seq BW (.block 0 (.loop BX))) (.seq uO .ret)))),[.cell k2 true 4]⟩
def PJ:List J:=[oJ k4 (I 0),oJ k5 (I 0)]
def jO:List bx:=[.L 0 (oM k6 k0),.L 1 (oN k7 k6),.L 2 (oF k8 3 k7),.L 3 (oL k9 1 k8),.L 4 (oM bM k9),.L 5 (oQ bW k0 bM),.L 6 ⟨cr,.nilc bW,(bM,false)⟩,.L 7 ⟨cu,.fieldA 2 cr,(bM,false)⟩,.L 8 ⟨bZ,.load false 1 cu,(bM,false)⟩,.L 9 (oQ cv k0 bM),.L 10 ⟨cK,.nilc cv,(bM,false)⟩,.L 11 ⟨cO,.fieldA 1 cK,(bM,false)⟩,.L 12 ⟨dv,.load false 1 cO,(bM,false)⟩,.L 13 ⟨dx,.lenL dv,(bM,false)⟩,.L 14 ⟨db,.bin .lss bZ dx,(bM,false)⟩,.L 15 ⟨dB,.pick bM (.v (.bool true)) db,none⟩]
def Ft:List J:=[oM cV k0,oC eH fq [cV],oM k4 eH,oJ k5 (I 2)]
def rJ:List J:=[oM fh k1]
def Fu:List J:=[oJ k4 (I 0),oJ k5 (I 4)]
def Fv:List J:=[oJ k4 (I 0),oJ k5 (I 0)]
def G9:eG:=⟨(.seq PJ (.seq (.seq (.staged jO ⟨[k6,k7,k8,k9,bM,bW,cr,cu,bZ,cv,cK,cO,dv,dx,db,dB],[]⟩) (.cond dB (.seq Ft .ret) .skip)) (.seq (.seq rJ (.cond fh (.seq Fu .ret) .skip)) (.seq Fv .ret)))),[.tmp k4,.tmp k5]⟩
def Ha:List J:=[oJ k4 (.str 0 0)]
def Hc:List J:=[oM k5 k0,oM k6 k1,⟨k7,.bin .add k6 (I 1),none⟩,oC k8 cq [k5,k7],oC k9 cZ [k8],oM k4 k9]
def wK:eG:=⟨(.seq Ha (.seq Hc .ret)),[.tmp k4]⟩
def Fw:List J:=[oJ k6 (.str 0 0)]
def Fy:List J:=[oM k8 k0,oC k9 cq [k8,(I 9)],oM k7 k9]
def Fz:List J:=[oM bM k2,oE bW bM 0]
def PK:List J:=[oM cr k7,⟨cu,.bin .rem cr (I 3),none⟩,oM k7 cu]
def FA:List J:=[oM bZ k7]
def cI:List J:=[oE cK bZ 0,oM cv cK]
def FB:List J:=[oM cO k0,oC dv bE [cO,(I 4)],oM k6 dv]
def dC:List J:=[oE db bZ 1,oM dx db]
def ft:List J:=[oE dB bZ 2,oM dx dB]
def rK:List J:=[oM cV k0,oM eH k1,oC fh df [cV,eH],oM k6 fh]
def iV:List J:=[oE fJ bZ 3,oM ic fJ]
def Cc:List J:=[oM hU k0,oM jm k1,oM gu k2,⟨jK,.bin .sub gu (I 1),none⟩,oC mj bT [hU,jm,jK],⟨mu,.bin .add (.v (.str 1 40)) mj,none⟩,⟨mv,.bin .add mu (.v (.str 3 2108192)),none⟩,oM jB k0,oM mS k1,oM lY k2,⟨iX,.bin .sub lY (I 1),none⟩,oC oK bT [jB,mS,iX],⟨qZ,.bin .add mv oK,none⟩,⟨jv,.bin .add qZ (.v (.str 1 41)),none⟩,oM k6 jv]
def kV:List J:=[oE qV bZ 4,oM q9 qV]
def Cd:List J:=[oM qW k0,oM qX k1,oM sg k2,⟨rC,.bin .sub sg (I 1),none⟩,oC vH bT [qW,qX,rC],⟨vk,.bin .add (.v (.str 1 40)) vH,none⟩,⟨vF,.bin .add vk (.v (.str 3 2108704)),none⟩,oM uD k0,oM ue k1,oM BD k2,⟨Ez,.bin .sub BD (I 1),none⟩,oC Le bT [uD,ue,Ez],⟨Lf,.bin .add vF Le,none⟩,⟨Iz,.bin .add Lf (.v (.str 1 41)),none⟩,oM k6 Iz]
def pC:List J:=[oE H7 bZ 5,oM NT H7]
def Ce:List J:=[oM Gt k0,oM Lg k1,oM Mv k2,⟨NU,.bin .sub Mv (I 1),none⟩,oC NV bT [Gt,Lg,NU],⟨Om,.bin .add NV (.v (.str 3 2107936)),none⟩,oM Rr k0,oC Pb bE [Rr,(I 3)],⟨Mw,.bin .add Om Pb,none⟩,oM k6 Mw]
def u0:List J:=[oE Mx bZ 6,oM H8 Mx]
def Cf:List J:=[oM Lh k0,⟨Pc,.bslice 1 2 [(.str 0 0)] [(0,1,(.v (.str 3 7889261))),(1,1,(.v (.str 3 7235949)))],none⟩,oC Li df [Lh,Pc],⟨Pd,.bin .add Li (.v (.str 1 40)),none⟩,oM NW k0,oM Se k1,oM Sf k2,⟨Uz,.bin .sub Sf (I 1),none⟩,oC VL bT [NW,Se,Uz],⟨UA,.bin .add Pd VL,none⟩,⟨Vq,.bin .add UA (.v (.str 2 8236)),none⟩,oM Ly k0,oM Vr k1,oM Ww k2,⟨VM,.bin .sub Ww (I 1),none⟩,oC VN bT [Ly,Vr,VM],⟨Sh,.bin .add Vq VN,none⟩,⟨XY,.bin .add Sh (.v (.str 1 41)),none⟩,oM k6 XY]
def Cg:List J:=[oE Xi bZ 7,oM XZ Xi]
def Ch:List J:=[oM X7 k0,oM X8 k1,oM UB k2,⟨VO,.bin .sub UB (I 1),none⟩,oC YO cY [X7,X8,VO],⟨Z9,.bin .add (.v (.str 4 543582504)) YO,none⟩,⟨k96,.bin .add Z9 (.v (.str 6 35658519835680)),none⟩,oM YP k0,oM VP k1,oM YQ k2,⟨yK,.bin .sub YQ (I 1),none⟩,oC AZ bT [YP,VP,yK],⟨qY,.bin .add k96 AZ,none⟩,⟨BR,.bin .add qY (.v (.str 6 35620100269344)),none⟩,oM Dy k0,oM BS k1,oM DB k2,⟨DC,.bin .sub DB (I 1),none⟩,oC wa bT [Dy,BS,DC],⟨BT,.bin .add BR wa,none⟩,⟨EW,.bin .add BT (.v (.str 1 41)),none⟩,oM k6 EW]
def u5:List J:=[oM DD k0,oM BU k1,oM AY k2,⟨DG,.bin .sub AY (I 1),none⟩,oC Gu bT [DD,BU,DG],⟨Gv,.bin .add (.v (.str 9 594700461775549459496)) Gu,none⟩,⟨NX,.bin .add Gv (.v (.str 8 2317982129229556000)),none⟩,oM EX k0,oM Je k1,oM Lz k2,⟨Jf,.bin .sub Lz (I 1),none⟩,oC DH bT [EX,Je,Jf],⟨EY,.bin .add NX DH,none⟩,⟨Jg,.bin .add EY (.v (.str 1 41)),none⟩,oM k6 Jg]
def A6:eG:=⟨(.seq Fw (.seq Fy (.seq (.seq Fz (.cond bW PK .skip)) (.seq (.seq FA (.block 0 (.seq cI (.cond cv (.seq FB .ret) (.seq (.seq dC (.cond dx .skip ft)) (.cond dx (.seq rK .ret) (.seq iV (.cond ic (.seq Cc .ret) (.seq kV (.cond q9 (.seq Cd .ret) (.seq pC (.cond NT (.seq Ce .ret) (.seq u0 (.cond H8 (.seq Cf .ret) (.seq Cg (.cond XZ (.seq Ch .ret) .skip)))))))))))))))) (.seq u5 .ret))))),[.tmp k6]⟩
def BA:List J:=[oJ k6 (.str 0 0)]
def By:List J:=[oM k9 k0,oC bM cq [k9,(I 6)],oM k7 bM]
def oV:List J:=[oM bW k2,oE cr bW 0]
def uy:List J:=[oM cu k7,⟨bZ,.bin .rem cu (I 3),none⟩,oM k7 bZ]
def uz:List J:=[oM cv k7]
def uv:List J:=[oE cO cv 0,oM cK cO]
def uw:List J:=[oE dv cv 1,oM cK dv]
def ux:List J:=[oE dx cv 2,oM cK dx]
def oU:List J:=[oM db k2,⟨dB,.bin .sub db (I 1),none⟩,⟨cV,.mx true (I 0) dB,none⟩,oM k8 cV]
def uA:List J:=[oM eH k0,oM fh k1,oM ic k8,oC fJ bT [eH,fh,ic],⟨hU,.bin .add (.v (.str 1 40)) fJ,none⟩,oM jm k0,⟨gu,.bslice 1 4 [(.str 0 0)] [(0,1,(.v (.str 3 2112544))),(1,1,(.v (.str 4 540884000))),(2,1,(.v (.str 4 540884256))),(3,1,(.v (.str 4 540877088)))],none⟩,oC jK df [jm,gu],⟨mj,.bin .add hU jK,none⟩,oM mu k0,oM mv k1,oM jB k8,oC mS bT [mu,mv,jB],⟨lY,.bin .add mj mS,none⟩,⟨iX,.bin .add lY (.v (.str 1 41)),none⟩,oM k6 iX]
def mP:List J:=[oE qZ cv 3,oM oK qZ]
def so:List J:=[oM jv k0,oM q9 k1,oM qV k2,⟨qW,.bin .sub qV (I 1),none⟩,oC qX cY [jv,q9,qW],⟨sg,.bin .add (.v (.str 1 40)) qX,none⟩,⟨rC,.bin .add sg (.v (.str 5 139123908896)),none⟩,oM vH k0,oM vk k1,oM vF k2,⟨uD,.bin .sub vF (I 1),none⟩,oC ue cY [vH,vk,uD],⟨BD,.bin .add rC ue,none⟩,⟨Ez,.bin .add BD (.v (.str 1 41)),none⟩,oM k6 Ez]
def mQ:List J:=[oE Lf cv 4,oM Le Lf]
def sq:List J:=[oM Iz k0,oM NT k1,oM H7 k2,⟨Gt,.bin .sub H7 (I 1),none⟩,oC Lg cY [Iz,NT,Gt],⟨Mv,.bin .add (.v (.str 1 40)) Lg,none⟩,⟨NU,.bin .add Mv (.v (.str 4 544370464)),none⟩,oM NV k0,oM Om k1,oM Rr k2,⟨Pb,.bin .sub Rr (I 1),none⟩,oC Mw cY [NV,Om,Pb],⟨H8,.bin .add NU Mw,none⟩,⟨Mx,.bin .add H8 (.v (.str 1 41)),none⟩,oM k6 Mx]
def su:List J:=[oM Lh k0,oM Pc k1,oM Li k2,⟨Pd,.bin .sub Li (I 1),none⟩,oC NW cY [Lh,Pc,Pd],⟨Se,.bin .add (.v (.str 4 544501614)) NW,none⟩,oM k6 Se]
def LD:eG:=⟨(.seq BA (.seq By (.seq (.seq oV (.cond cr uy .skip)) (.seq (.seq uz (.block 0 (.seq (.seq uv (.cond cK .skip (.seq uw (.cond cK .skip ux)))) (.cond cK (.seq oU (.seq uA .ret)) (.seq mP (.cond oK (.seq so .ret) (.seq mQ (.cond Le (.seq sq .ret) .skip)))))))) (.seq su .ret))))),[.tmp k6]⟩
def Jn:List J:=[oJ k2 (.str 0 0)]
def zq:List J:=[oM k7 k0,oE k8 k7 0]
def Jo:List J:=[oJ k2 (.str 1 48)]
def Jp:List J:=[oJ k3 (.str 10 270211885617516653982000)]
def Jq:List J:=[oJ k4 (.str 0 0)]
def Jr:List J:=[oM k9 k0,oM k5 k9]
def zt:List J:=[oM bM k5,⟨bW,.bin .neq bM (I 0),none⟩]
def Js:List J:=[oM bZ k5,⟨cv,.bin .rem bZ (I 10),none⟩,oM k6 cv]
def Jt:List J:=[oM cK k6,⟨cO,.bin .lss cK (I 0),none⟩]
def VW:List J:=[oM dv k6,⟨dx,.un .neg dv,none⟩,oM k6 dx]
def Hd:List J:=[oM db k3,oM dB k6,oM cV k6,⟨eH,.bin .add cV (I 1),none⟩,⟨fh,.sliceS db dB eH,none⟩,oM ic k4,⟨fJ,.bin .add fh ic,none⟩,oM k4 fJ]
def He:List J:=[oM cr k5,⟨cu,.bin .quo cr (I 10),none⟩,oM k5 cu]
def zu:U:=(.seq (.seq zt (.cond bW .skip (.exit 0))) (.seq (.block 1 (.seq Js (.seq (.seq Jt (.cond cO VW .skip)) Hd))) He))
def Hf:List J:=[oM hU k0,⟨jm,.bin .lss hU (I 0),none⟩]
def UF:List J:=[oM gu k4,⟨jK,.bin .add (.v (.str 1 45)) gu,none⟩,oM k2 jK]
def Hg:List J:=[oM mj k4,oM k2 mj]
def Aq:eG:=⟨(.seq Jn (.seq (.seq zq (.cond k8 (.seq Jo .ret) .skip)) (.seq Jp (.seq Jq (.seq (.seq Jr (.block 0 (.loop zu))) (.seq (.seq Hf (.cond jm (.seq UF .ret) .skip)) (.seq Hg .ret))))))),[.tmp k2]⟩
def Hh:List J:=[oJ k4 (.str 0 0)]
def Hi:List J:=[oM k5 k1,oM k6 k0,oM k7 k1,oZ k8 k7,oC k9 cq [k6,k8],oI bM 1 k5 k9,oL bW 1 bM,oM k4 bW]
def wL:eG:=⟨(.seq Hh (.seq Hi .ret)),[.tmp k4]⟩
def Sn:List J:=[oJ k6 (I 0)]
def uh:List J:=[oM k7 k1,⟨k8,.bin .lss k7 (I 0),none⟩,oM k9 k8,oQ bM k1 k9,oQ bW k0 k9,⟨cr,.lenL bW,(k9,false)⟩,⟨cu,.bin .geq bM cr,(k9,false)⟩,⟨bZ,.pick k9 (.v (.bool true)) cu,none⟩]
def As:List J:=[oJ k6 (I 0)]
def Sp:List J:=[oM cv k0,oM cK k1,oI cO 1 cv cK,oL dv 1 cO,oM dx k2,oC db jI [dv,dx],oM k6 db]
def LF:eG:=⟨(.seq Sn (.seq (.seq uh (.cond bZ (.seq As .ret) .skip)) (.seq Sp .ret))),[.tmp k6]⟩
def Sq:List J:=[oJ k4 (I 0)]
def Ss:List J:=[oJ k5 (.bool false)]
def Ig:List J:=[oM k6 k1,oM k7 k0,⟨k8,.lenS k7,none⟩,⟨k9,.bin .lss k6 k8,none⟩]
def Ih:List J:=[oM bM k0,oM bW k1,⟨cr,.indexS bM bW,none⟩,⟨cu,.bin .eql cr (.v (.int .u8 (.lit 35))),none⟩]
def St:List J:=[oJ k5 (.bool true)]
def Au:List J:=[oM bZ k0,oM cv k1,⟨cK,.indexS bZ cv,none⟩,⟨cO,.bin .eql cK (.v (.int .u8 (.lit 10))),none⟩]
def Su:List J:=[oJ k5 (.bool false)]
def Av:List J:=[oM dv k5,⟨dx,.un .not dv,none⟩,oM db dx,oT dB k0 db,oT cV k1 db,⟨eH,.indexS dB cV,(db,true)⟩,⟨fh,.callF dK [eH],(db,true)⟩,⟨ic,.bin .neq fh (I 0),(db,true)⟩,oP fJ db ic]
def Ii:List J:=[oM hU k1,oM k4 hU]
def Aw:List J:=[oM jm k1,⟨gu,.bin .add jm (I 1),none⟩,oM k1 gu]
def Sv:U:=(.seq (.seq Ig (.cond k9 .skip (.exit 0))) (.block 1 (.seq (.seq Ih (.cond cu St .skip)) (.seq (.seq Au (.cond cO Su .skip)) (.seq (.seq Av (.cond fJ (.seq Ii .ret) .skip)) Aw)))))
def wM:List J:=[oM jK k1,oM k4 jK]
def LG:eG:=⟨(.seq Sq (.seq Ss (.seq (.block 0 (.loop Sv)) (.seq wM .ret)))),[.tmp k4]⟩
def UG:List J:=[oJ k4 (I 0)]
def UH:List J:=[oM k9 k1,⟨bM,.bin .add k9 (I 1),none⟩,oM k5 bM]
def UI:List J:=[oM bW k0,oM cr k1,⟨cu,.indexS bW cr,none⟩,oC bZ dK [cu]]
def LH:List J:=[oE cK bZ 1,oM cv cK]
def LI:List J:=[oM cO k5,oM dv k0,⟨dx,.lenS dv,none⟩,⟨db,.bin .lss cO dx,none⟩,oM dB db,oT cV k0 dB,oT eH k5 dB,⟨fh,.indexS cV eH,(dB,true)⟩,⟨ic,.callF dK [fh],(dB,true)⟩,⟨fJ,.bin .eql ic (I 1),(dB,true)⟩,oT hU fJ dB,oQ jm k0 hU,oQ gu k5 hU,⟨jK,.indexS jm gu,(hU,false)⟩,⟨mj,.callF dK [jK],(hU,false)⟩,⟨mu,.bin .eql mj (I 3),(hU,false)⟩,⟨mv,.pick hU (.v (.bool true)) mu,(dB,true)⟩,oT jB mv dB,oQ mS k0 jB,oQ lY k5 jB,⟨iX,.indexS mS lY,(jB,false)⟩,⟨oK,.callF dK [iX],(jB,false)⟩,⟨qZ,.bin .eql oK (I 4),(jB,false)⟩,⟨jv,.pick jB (.v (.bool true)) qZ,(dB,true)⟩,oP q9 dB jv]
def DR:List J:=[oM qV k5,⟨qW,.bin .add qV (I 1),none⟩,oM k5 qW]
def LJ:U:=(.seq (.seq LI (.cond q9 .skip (.exit 1))) (.block 2 DR))
def DS:List J:=[oM qX k5,oM k4 qX]
def LK:List J:=[oE rC bZ 2,oM sg rC]
def LL:List J:=[oM vH k5,oM vk k0,⟨vF,.lenS vk,none⟩,⟨uD,.bin .lss vH vF,none⟩,oM ue uD,oT BD k0 ue,oT Ez k5 ue,⟨Le,.indexS BD Ez,(ue,true)⟩,⟨Lf,.callF dK [Le],(ue,true)⟩,⟨Iz,.bin .geq Lf (I 1),(ue,true)⟩,oP NT ue Iz,oM H7 NT,oT Gt k0 H7,oT Lg k5 H7,⟨Mv,.indexS Gt Lg,(H7,true)⟩,⟨NU,.callF dK [Mv],(H7,true)⟩,⟨NV,.bin .leq NU (I 4),(H7,true)⟩,oP Om H7 NV]
def UJ:List J:=[oM Rr k5,⟨Pb,.bin .add Rr (I 1),none⟩,oM k5 Pb]
def LM:U:=(.seq (.seq LL (.cond Om .skip (.exit 3))) (.block 4 UJ))
def ui:List J:=[oM Mw k5,oM k4 Mw]
def Ij:List J:=[oE Mx bZ 3,oM H8 Mx]
def Ik:List J:=[oM Lh k5,oM Pc k0,⟨Li,.lenS Pc,none⟩,⟨Pd,.bin .lss Lh Li,none⟩,oM NW Pd,oT Se k0 NW,oT Sf k5 NW,⟨Uz,.indexS Se Sf,(NW,true)⟩,⟨VL,.callF dK [Uz],(NW,true)⟩,⟨UA,.bin .eql VL (I 3),(NW,true)⟩,oP Vq NW UA]
def Sw:List J:=[oM Ly k5,⟨Vr,.bin .add Ly (I 1),none⟩,oM k5 Vr]
def LN:U:=(.seq (.seq Ik (.cond Vq .skip (.exit 5))) (.block 6 Sw))
def Ay:List J:=[oM Ww k5,oM k4 Ww]
def pN:List J:=[oC VM uV [],oM k6 VM]
def pO:List J:=[oJ k7 (I 0)]
def Il:List J:=[oM VN k7,oM Sh k6,oZ XY Sh,⟨XZ,.bin .lss VN XY,none⟩]
def Sy:List J:=[oM X8 k1,oM UB k6,oM VO k7,oI YO 1 UB VO,oL Z9 1 YO,⟨k96,.lenS Z9,none⟩,⟨YP,.bin .add X8 k96,none⟩,oM k8 YP]
def Im:List bx:=[.L 0 (oM VP k8),.L 1 (oM YQ k0),.L 2 ⟨yK,.lenS YQ,none⟩,.L 3 ⟨AZ,.bin .leq VP yK,none⟩,.L 4 (oM qY AZ),.L 5 (oT BR k0 qY),.L 6 (oT Dy k1 qY),.L 7 (oT BS k8 qY),.L 8 ⟨DB,.sliceS BR Dy BS,(qY,true)⟩,.L 9 (oT DC k6 qY),.L 10 (oT wa k7 qY),.L 11 ⟨BT,.indexL 1 DC wa,(qY,true)⟩,.L 12 ⟨EW,.load false 1 BT,(qY,true)⟩,.L 13 ⟨DD,.bin .eql DB EW,(qY,true)⟩,.L 14 (oP BU qY DD)]
def Sz:List J:=[oM AY k8,oM k4 AY]
def Io:List J:=[oM Xi k7,⟨X7,.bin .add Xi (I 1),none⟩,oM k7 X7]
def sP:U:=(.seq (.seq Il (.cond XZ .skip (.exit 7))) (.seq (.block 8 (.seq Sy (.seq (.staged Im ⟨[VP,YQ,yK,AZ,qY,BR,Dy,BS,DB,DC,wa,BT,EW,DD,BU],[]⟩) (.cond BU (.seq Sz .ret) .skip)))) Io))
def me:List J:=[oM DG k1,oM k4 DG]
def Rs:eG:=⟨(.seq UG (.seq UH (.seq (.seq UI (.block 0 (.seq LH (.cond cv (.seq (.block 1 (.loop LJ)) (.seq DS .ret)) (.seq LK (.cond sg (.seq (.block 3 (.loop LM)) (.seq ui .ret)) (.seq Ij (.cond H8 (.seq (.block 5 (.loop LN)) (.seq Ay .ret)) .skip)))))))) (.seq pN (.seq (.seq pO (.block 7 (.loop sP))) (.seq me .ret)))))),[.tmp k4]⟩
def PL:List J:=[oJ k2 (I 0)]
def PM:List J:=[oM k3 k0]
def FC:List J:=[⟨k5,.bin .eql k3 (.v (.int .u8 (.lit 32))),none⟩,oM k4 k5]
def FD:List J:=[⟨k6,.bin .eql k3 (.v (.int .u8 (.lit 9))),none⟩,oM k4 k6]
def FE:List J:=[⟨k7,.bin .eql k3 (.v (.int .u8 (.lit 10))),none⟩,oM k4 k7]
def wN:List J:=[oJ k2 (I 0)]
def FF:List J:=[⟨k9,.bin .eql k3 (.v (.int .u8 (.lit 95))),none⟩,oM k8 k9]
def PN:List J:=[oJ k2 (I 4)]
def FG:List J:=[⟨bW,.bin .eql k3 (.v (.int .u8 (.lit 35))),none⟩,oM bM bW]
def PO:List J:=[oJ k2 (I 5)]
def u6:List J:=[oM cr k0,⟨cu,.bin .geq cr (.v (.int .u8 (.lit 97))),none⟩,oM bZ cu,oT cv k0 bZ,⟨cK,.bin .leq cv (.v (.int .u8 (.lit 122))),(bZ,true)⟩,oP cO bZ cK]
def Nc:List J:=[oJ k2 (I 1)]
def pD:List J:=[oM dv k0,⟨dx,.bin .geq dv (.v (.int .u8 (.lit 65))),none⟩,oM db dx,oT dB k0 db,⟨cV,.bin .leq dB (.v (.int .u8 (.lit 90))),(db,true)⟩,oP eH db cV]
def Ci:List J:=[oJ k2 (I 2)]
def kW:List J:=[oM fh k0,⟨ic,.bin .geq fh (.v (.int .u8 (.lit 48))),none⟩,oM fJ ic,oT hU k0 fJ,⟨jm,.bin .leq hU (.v (.int .u8 (.lit 57))),(fJ,true)⟩,oP gu fJ jm]
def u7:List J:=[oJ k2 (I 3)]
def pE:List J:=[oJ k2 (I 6)]
def Hj:eG:=⟨(.seq PL (.seq (.seq PM (.block 0 (.seq (.seq FC (.cond k4 .skip (.seq FD (.cond k4 .skip FE)))) (.cond k4 (.seq wN .ret) (.seq FF (.cond k8 (.seq PN .ret) (.seq FG (.cond bM (.seq PO .ret) .skip)))))))) (.seq (.seq u6 (.cond cO (.seq Nc .ret) .skip)) (.seq (.seq pD (.cond eH (.seq Ci .ret) .skip)) (.seq (.seq kW (.cond gu (.seq u7 .ret) .skip)) (.seq pE .ret)))))),[.tmp k2]⟩
def PQ:List J:=[oJ k2 (I 0)]
def PR:List J:=[oJ k3 (I 0)]
def PS:List J:=[oJ k4 (I 0)]
def FH:List J:=[oM k5 k4,oM k6 k0,⟨k7,.lenS k6,none⟩,⟨k8,.bin .lss k5 k7,none⟩]
def PT:List J:=[oM bW k3,⟨cr,.bin .mul (I 10) bW,none⟩,oM cu k0,oM bZ k4,⟨cv,.indexS cu bZ,none⟩,⟨cK,.bin .sub cv (.v (.int .u8 (.lit 48))),none⟩,⟨cO,.cint .i64 cK,none⟩,⟨dv,.bin .add cr cO,none⟩,⟨dx,.mx false dv (I 1099511627777),none⟩,oM k3 dx]
def FI:List J:=[oM k9 k4,⟨bM,.bin .add k9 (I 1),none⟩,oM k4 bM]
def PU:U:=(.seq (.seq FH (.cond k8 .skip (.exit 0))) (.seq (.block 1 PT) FI))
def PV:List J:=[oM db k3,oM k2 db]
def Hk:eG:=⟨(.seq PQ (.seq PR (.seq (.seq PS (.block 0 (.loop PU))) (.seq PV .ret)))),[.tmp k2]⟩
def OU:List J:=[oJ k0 .nils]
def ru:List J:=[⟨k1,.bslice 1 6 [(.str 0 0)] [(0,1,(.v (.str 4 1701869940))),(1,1,(.v (.str 3 7239014))),(2,1,(.v (.str 3 7234919))),(3,1,(.v (.str 4 1886351984))),(4,1,(.v (.str 5 465557548909))),(5,1,(.v (.str 6 120282512849267)))],none⟩,oM k0 k1]
def GO:eG:=⟨(.seq OU (.seq ru .ret)),[.tmp k0]⟩
def Nd:List J:=[oJ k4 (.bool false)]
def Nf:List J:=[oM k6 k0,oM k7 k1,oC k8 cG [k6,k7],oM k5 k8]
def Cj:List J:=[oM k9 k5]
def Ng:List J:=[oM bM k0,oN bW bM,oF cr 2 bW,oL cu 1 cr,⟨bZ,.bin .add cu (I 1),none⟩,oN cv bM,oF cK 2 cv,oS 1 cK bZ]
def Ck:List J:=[oM cO k5,oM k4 cO]
def wO:eG:=⟨(.seq Nd (.seq Nf (.seq (.seq Cj (.cond k9 Ng .skip)) (.seq Ck .ret)))),[.tmp k4]⟩
def SA:List J:=[oJ k2 (I 0)]
def Az:List bx:=[.L 0 (oM k3 k0),.L 1 (oN k4 k3),.L 2 (oF k5 2 k4),.L 3 (oL k6 1 k5),.L 4 (oM k7 k0),.L 5 (oN k8 k7),.L 6 (oF k9 1 k8),.L 7 (oL bM 1 k9),.L 8 (oZ bW bM),.L 9 ⟨cr,.bin .lss k6 bW,none⟩]
def SB:List bx:=[.L 0 (oM cu k0),.L 1 (oN bZ cu),.L 2 (oF cv 1 bZ),.L 3 (oL cK 1 cv),.L 4 (oM cO k0),.L 5 (oN dv cO),.L 6 (oF dx 2 dv),.L 7 (oL db 1 dx),.L 8 (oI dB 4 cK db),.L 9 (oF cV 1 dB),.L 10 (oL eH 1 cV),.L 11 (oM k2 eH)]
def Ip:List J:=[oM fh k0,oN ic fh,oF fJ 0 ic,oL hU 1 fJ,⟨jm,.lenS hU,none⟩,oM k2 jm]
def LO:eG:=⟨(.seq SA (.seq (.seq (.staged Az ⟨[k3,k4,k5,k6,k7,k8,k9,bM,bW,cr],[]⟩) (.cond cr (.seq (.staged SB ⟨[cu,bZ,cv,cK,cO,dv,dx,db,dB,cV,eH,k2],[]⟩) .ret) .skip)) (.seq Ip .ret))),[.tmp k2]⟩
def Ju:List J:=[⟨k4,.new [(I 0),(I 0),(I 0),(.str 0 0)],none⟩]
def Jv:List J:=[oM k5 k0,oM k6 k1,oC k7 jM [k5,k6],⟨k8,.un .not k7,none⟩]
def Jw:List J:=[oM k9 k0,oN bM k9,oF bW 3 bM,⟨none,.store 1 bW (.v (.bool true)),none⟩]
def Jx:List J:=[⟨cr,.build [(I 0),(I 0),(I 0),(.str 0 0)] [],none⟩,oS 4 k4 cr]
def Jy:List J:=[oM cu k0,oN bZ cu,oF cv 2 bZ,oL cK 1 cv,⟨cO,.bin .add cK (I 1),none⟩,oN dv cu,oF dx 2 dv,oS 1 dx cO]
def Jz:List bx:=[.L 0 (oM db k0),.L 1 (oN dB db),.L 2 (oF cV 1 dB),.L 3 (oL eH 1 cV),.L 4 (oM fh k0),.L 5 (oN ic fh),.L 6 (oF fJ 2 ic),.L 7 (oL hU 1 fJ),.L 8 ⟨jm,.bin .sub hU (I 1),none⟩,.L 9 (oI gu 4 eH jm),.L 10 (oA jK 4 gu),.H 11 (oS 4 k4 jK) [],.R []]
def AA:eG:=⟨(.seq Ju (.seq (.seq Jv (.cond k8 (.seq Jw (.seq Jx .ret)) .skip)) (.seq Jy (.seq (.staged Jz ⟨[db,dB,cV,eH,fh,ic,fJ,hU,jm,gu,jK],[]⟩) .ret)))),[.cell k4 true 4]⟩
def Nh:List J:=[oM k4 k0,oM k5 k1,oC k6 cG [k4,k5],⟨k7,.un .not k6,none⟩]
def Ni:List J:=[oM k8 k0,oN k9 k8,oF bM 3 k9,⟨none,.store 1 bM (.v (.bool true)),none⟩]
def Nj:List J:=[oM bW k0,oN cr bW,oF cu 2 cr,oL bZ 1 cu,⟨cv,.bin .add bZ (I 1),none⟩,oN cK bW,oF cO 2 cK,oS 1 cO cv]
def wQ:eG:=⟨(.seq (.seq Nh (.cond k7 (.seq Ni .ret) .skip)) Nj),[]⟩
def JA:List J:=[oJ k2 .nils]
def JB:List J:=[oJ k3 .nils]
def JC:List J:=[oJ k4 (.bool true)]
def sQ:List J:=[oM k7 k4,oM k8 k7,oT k9 k0 k8,⟨bM,.nilc k9,(k8,true)⟩,⟨bW,.fieldA 3 bM,(k8,true)⟩,⟨cr,.load false 1 bW,(k8,true)⟩,⟨cu,.un .not cr,(k8,true)⟩,oP bZ k8 cu]
def JD:List J:=[oM cv k0,oC cK aL [cv,(I 1)],⟨cO,.field false 3 1 cK,none⟩,⟨dv,.build [(.str 0 0),.nils] [(0,1,cO)],none⟩,⟨k5,.new [(.str 0 0),.nils],none⟩,oS 2 k5 dv]
def JE:List J:=[oM dx k0,oC db ao [dx,(.v (.str 1 40))]]
def JF:List J:=[oJ k6 (.bool true)]
def sR:List J:=[oM dB k6,oM cV dB,oT eH k0 cV,⟨fh,.nilc eH,(cV,true)⟩,⟨ic,.fieldA 3 fh,(cV,true)⟩,⟨fJ,.load false 1 ic,(cV,true)⟩,⟨hU,.un .not fJ,(cV,true)⟩,oP jm cV hU]
def JG:List bx:=[.L 0 (oF gu 1 k5),.L 1 (oL jK 1 gu),.L 2 (oM mj k0),.H 3 (oC mu hZ [mj]) [],.R [(1,oL jK 1 gu)],.A 4 ⟨mv,.bslice 3 1 [(I 0),(.str 0 0),.nils] [(0,3,mu)],none⟩,.H 5 ⟨jB,.append 3 jK mv,none⟩ [4],.R [],.L 6 (oF mS 1 k5),.H 7 (oS 1 mS jB) [4],.R []]
def JH:List J:=[oM lY k0,oC iX ao [lY,(.v (.str 1 44))],oM k6 iX]
def JI:U:=(.seq (.seq sR (.cond jm .skip (.exit 2))) (.block 3 (.seq (.staged JG ⟨[gu,jK,mj,mu,mv,jB,mS],[]⟩) JH)))
def wR:List J:=[oM oK k0,oC qZ ah [oK,(.v (.str 1 41))]]
def qK:List J:=[oM jv k3,oA q9 2 k5,⟨qV,.bslice 2 1 [(.str 0 0),.nils] [(0,2,q9)],none⟩,⟨qW,.append 2 jv qV,none⟩,oM k3 qW]
def qL:List J:=[oM qX k0,oC sg ao [qX,(.v (.str 1 124))],oM k4 sg]
def JJ:U:=(.seq (.seq sQ (.cond bZ .skip (.exit 0))) (.block 1 (.seq JD (.seq (.seq JE (.cond db (.seq JF (.seq (.block 2 (.loop JI)) wR)) .skip)) (.seq qK qL)))))
def iU:List J:=[oM rC k3,oM k2 rC]
def AB:eG:=⟨(.seq JA (.seq JB (.seq JC (.seq (.block 0 (.loop JJ)) (.seq iU .ret))))),[.tmp k2]⟩
def Hl:List J:=[oJ k2 .nils]
def Hm:List J:=[oM k6 k0,oC k7 ah [k6,(.v (.str 1 40))]]
def Hn:List J:=[oM k8 k0,oC k9 ao [k8,(.v (.str 1 41))]]
def Ho:List J:=[oJ k2 .nils]
def Hp:List J:=[oJ k3 .nils]
def Hq:List J:=[oJ k4 (.bool true)]
def qM:List J:=[oM bM k4,oM bW bM,oT cr k0 bW,⟨cu,.nilc cr,(bW,true)⟩,⟨bZ,.fieldA 3 cu,(bW,true)⟩,⟨cv,.load false 1 bZ,(bW,true)⟩,⟨cK,.un .not cv,(bW,true)⟩,oP cO bW cK]
def Hr:List J:=[oM dv k0,oC dx aL [dv,(I 0)],⟨db,.field false 3 1 dx,none⟩,oM k5 db]
def Hs:List J:=[oM dB k0,oC cV ah [dB,(.v (.str 1 58))]]
def Ht:List J:=[oM eH k3,oM fh k5,oM ic k0,oC fJ hZ [ic],⟨hU,.build [(.str 0 0),(I 0),(.str 0 0),.nils] [(0,1,fh),(1,3,fJ)],none⟩,⟨jm,.bslice 4 1 [(.str 0 0),(I 0),(.str 0 0),.nils] [(0,4,hU)],none⟩,⟨gu,.append 4 eH jm,none⟩,oM k3 gu]
def FJ:List J:=[oM jK k0,oC mj ao [jK,(.v (.str 1 44))],oM k4 mj]
def Hu:U:=(.seq (.seq qM (.cond cO .skip (.exit 0))) (.block 1 (.seq Hr (.seq Hs (.seq Ht FJ)))))
def vm:List J:=[oM mu k0,oC mv ah [mu,(.v (.str 1 41))]]
def vn:List J:=[oM jB k3,oM k2 jB]
def wS:eG:=⟨(.seq Hl (.seq Hm (.seq (.seq Hn (.cond k9 (.seq Ho .ret) .skip)) (.seq Hp (.seq Hq (.seq (.block 0 (.loop Hu)) (.seq vm (.seq vn .ret)))))))),[.tmp k2]⟩
def PW:List J:=[⟨k2,.new [(I 0),(.str 0 0),.nils],none⟩]
def PY:List J:=[oM k4 k0,oC k5 ao [k4,(.v (.str 3 7630441))]]
def PZ:List J:=[⟨k6,.build [(I 0),(.str 0 0),.nils] [(0,1,(I 0))],none⟩,oS 3 k2 k6]
def Qa:List J:=[oM k7 k0,oC k8 ao [k7,(.v (.str 4 1819242338))]]
def Qb:List J:=[⟨k9,.build [(I 0),(.str 0 0),.nils] [(0,1,(I 1))],none⟩,oS 3 k2 k9]
def Qc:List J:=[oM bM k0,oC bW ao [bM,(.v (.str 1 91))]]
def Qd:List J:=[oM cr k0,oC cu hZ [cr],⟨k3,.new [(I 0),(.str 0 0),.nils],none⟩,oS 3 k3 cu]
def Qe:List J:=[oM bZ k0,oC cv ah [bZ,(.v (.str 1 93))]]
def Qf:List J:=[oA cK 3 k3,⟨cO,.bslice 3 1 [(I 0),(.str 0 0),.nils] [(0,3,cK)],none⟩,⟨dv,.build [(I 0),(.str 0 0),.nils] [(0,1,(I 2)),(2,1,cO)],none⟩,oS 3 k2 dv]
def Qg:List J:=[oM dx k0,oC db aL [dx,(I 1)],⟨dB,.field false 3 1 db,none⟩,⟨cV,.build [(I 0),(.str 0 0),.nils] [(0,1,(I 3)),(1,1,dB)],none⟩,oS 3 k2 cV]
def Hv:eG:=⟨(.seq PW (.seq (.seq PY (.cond k5 (.seq PZ .ret) .skip)) (.seq (.seq Qa (.cond k8 (.seq Qb .ret) .skip)) (.seq (.seq Qc (.cond bW (.seq Qd (.seq Qe (.seq Qf .ret))) .skip)) (.seq Qg .ret))))),[.cell k2 true 3]⟩
def Qh:List J:=[⟨k2,.new [(I 0),(.str 0 0),.nils,.nils,.nils,(I 0)],none⟩]
def Qi:List J:=[oM k8 k0,oC k9 fq [k8],oM k3 k9]
def Qj:List J:=[oM bM k0,oC bW ao [bM,(.v (.str 3 7628140))]]
def Qk:List J:=[oM cr k0,oC cu aL [cr,(I 0)],⟨bZ,.field false 3 1 cu,none⟩,oM k4 bZ]
def Ql:List J:=[oM cv k0,oC cK ah [cv,(.v (.str 2 11580))]]
def Qm:List J:=[oM cO k0,oC dv fi [cO],⟨k5,.new [(I 0),(.str 0 0),.nils,.nils,.nils,(I 0)],none⟩,oS 6 k5 dv]
def Qn:List J:=[oM dx k0,oC db ah [dx,(.v (.str 2 28265))]]
def Qo:List bx:=[.L 0 (oM dB k3),.L 1 (oM cV k4),.L 2 (oA eH 6 k5),.L 3 (oM fh k0),.H 4 (oC ic fi [fh]) [],.R [(2,oA eH 6 k5)],.A 5 ⟨fJ,.bslice 6 2 [(I 0),(.str 0 0),.nils,.nils,.nils,(I 0)] [(0,6,eH),(6,6,ic)],none⟩,.L 6 ⟨hU,.build [(I 0),(.str 0 0),.nils,.nils,.nils,(I 0)] [(0,1,(I 5)),(5,1,dB),(1,1,cV),(4,1,fJ)],none⟩,.H 7 (oS 6 k2 hU) [5],.R []]
def Qp:List J:=[oM jm k0,oC gu rq [jm],⟨k6,.new [(I 0),(.str 0 0),.nils,.nils,.nils,(I 0)],none⟩,oS 6 k6 gu]
def Qq:List J:=[oM jK k0,oC mj ao [jK,(.v (.str 5 435710945399))]]
def Nk:List J:=[oM mu k0,oC mv aL [mu,(I 0)],⟨jB,.field false 3 1 mv,none⟩,oM k7 jB]
def Nl:List J:=[oM mS k0,oC lY ah [mS,(.v (.str 1 58))]]
def Nn:List bx:=[.L 0 (oM iX k3),.L 1 (oM oK k7),.L 2 (oM qZ k0),.L 5 (oA qV 6 k6),.A 6 ⟨qW,.bslice 6 1 [(I 0),(.str 0 0),.nils,.nils,.nils,(I 0)] [(0,6,qV)],none⟩,.H 3 (oC jv aS [qZ]) [],.R [(5,oA qV 6 k6)],.A 4 ⟨q9,.bslice 7 1 [(I 0),(.str 0 0),(I 0),.nils,.nils,.nils,(I 0)] [(0,7,jv)],none⟩,.L 7 ⟨qX,.build [(I 0),(.str 0 0),.nils,.nils,.nils,(I 0)] [(0,1,(I 6)),(5,1,iX),(1,1,oK),(3,1,q9),(4,1,qW)],none⟩,.H 8 (oS 6 k6 qX) [4,6],.R []]
def Qr:U:=(.seq (.seq Qq (.cond mj .skip (.exit 0))) (.block 1 (.seq Nk (.seq Nl (.staged Nn ⟨[iX,oK,qZ,jv,q9,qV,qW,qX],[]⟩)))))
def No:List J:=[oA sg 6 k6,oS 6 k2 sg]
def Hw:eG:=⟨(.seq Qh (.seq Qi (.seq (.seq Qj (.cond bW (.seq Qk (.seq Ql (.seq Qm (.seq Qn (.seq (.staged Qo ⟨[dB,cV,eH,fh,ic,fJ,hU],[]⟩) .ret))))) .skip)) (.seq Qp (.seq (.block 0 (.loop Qr)) (.seq No .ret)))))),[.cell k2 true 6]⟩
def Mc:List J:=[⟨k2,.new [(I 0),(.str 0 0),(I 0),.nils,.nils,.nils,(I 0)],none⟩]
def Md:List J:=[oM k8 k0,oC k9 fq [k8],oM k3 k9]
def Me:List J:=[oM bM k0,oC bW ao [bM,(.v (.str 2 26217))]]
def Mf:List J:=[oM cr k0,oC cu aS [cr],⟨k4,.new [(I 0),(.str 0 0),(I 0),.nils,.nils,.nils,(I 0)],none⟩,oS 7 k4 cu]
def Mg:List J:=[oM bZ k0,oC cv ah [bZ,(.v (.str 4 1852139636))]]
def Mh:List J:=[oM cK k0,oC cO aS [cK],⟨k5,.new [(I 0),(.str 0 0),(I 0),.nils,.nils,.nils,(I 0)],none⟩,oS 7 k5 cO]
def Mi:List J:=[oM dv k0,oC dx ah [dv,(.v (.str 4 1702063205))]]
def Mj:List bx:=[.L 0 (oM db k3),.L 1 (oA dB 7 k4),.L 2 (oA cV 7 k5),.L 3 (oM eH k0),.H 4 (oC fh aS [eH]) [],.R [(1,oA dB 7 k4),(2,oA cV 7 k5)],.A 5 ⟨ic,.bslice 7 3 [(I 0),(.str 0 0),(I 0),.nils,.nils,.nils,(I 0)] [(0,7,dB),(7,7,cV),(14,7,fh)],none⟩,.L 6 ⟨fJ,.build [(I 0),(.str 0 0),(I 0),.nils,.nils,.nils,(I 0)] [(0,1,(I 6)),(6,1,db),(5,1,ic)],none⟩,.H 7 (oS 7 k2 fJ) [5],.R []]
def Mk:List J:=[oM hU k0,oC jm ao [hU,(.v (.str 3 7628140))]]
def Ml:List J:=[oM gu k0,oC jK aL [gu,(I 0)],⟨mj,.field false 3 1 jK,none⟩,oM k6 mj]
def IF:List J:=[oM mu k0,oC mv ah [mu,(.v (.str 1 61))]]
def IG:List J:=[oM jB k0,oC mS aS [jB],⟨k7,.new [(I 0),(.str 0 0),(I 0),.nils,.nils,.nils,(I 0)],none⟩,oS 7 k7 mS]
def IH:List J:=[oM lY k0,oC iX ah [lY,(.v (.str 2 28265))]]
def II:List bx:=[.L 0 (oM oK k3),.L 1 (oM qZ k6),.L 2 (oA jv 7 k7),.L 3 (oM q9 k0),.H 4 (oC qV aS [q9]) [],.R [(2,oA jv 7 k7)],.A 5 ⟨qW,.bslice 7 2 [(I 0),(.str 0 0),(I 0),.nils,.nils,.nils,(I 0)] [(0,7,jv),(7,7,qV)],none⟩,.L 6 ⟨qX,.build [(I 0),(.str 0 0),(I 0),.nils,.nils,.nils,(I 0)] [(0,1,(I 7)),(6,1,oK),(1,1,qZ),(5,1,qW)],none⟩,.H 7 (oS 7 k2 qX) [5],.R []]
def IJ:List J:=[oM sg k0,oC rC ao [sg,(.v (.str 5 448345170285))]]
def IK:List J:=[oM vH k0,oM vk k3,oC vF uq [vH,vk],oS 7 k2 vF]
def IM:List J:=[oM uD k0,oC ue fD [uD,(I 1)],oS 7 k2 ue]
def Dm:eG:=⟨(.seq Mc (.seq Md (.seq (.seq Me (.cond bW (.seq Mf (.seq Mg (.seq Mh (.seq Mi (.seq (.staged Mj ⟨[db,dB,cV,eH,fh,ic,fJ],[]⟩) .ret))))) .skip)) (.seq (.seq Mk (.cond jm (.seq Ml (.seq IF (.seq IG (.seq IH (.seq (.staged II ⟨[oK,qZ,jv,q9,qV,qW,qX],[]⟩) .ret))))) .skip)) (.seq (.seq IJ (.cond rC (.seq IK .ret) .skip)) (.seq IM .ret)))))),[.cell k2 true 7]⟩
def IW:List J:=[oJ k4 .nils]
def IX:List J:=[oM k8 k0,oC k9 ah [k8,(.v (.str 1 40))]]
def IY:List J:=[oM bM k0,oC bW ao [bM,(.v (.str 1 41))]]
def IZ:List J:=[oJ k4 .nils]
def I0:List J:=[oJ k5 .nils]
def I1:List J:=[oJ k6 (.bool true)]
def sx:List J:=[oM cr k6,oM cu cr,oT bZ k0 cu,⟨cv,.nilc bZ,(cu,true)⟩,⟨cK,.fieldA 3 cv,(cu,true)⟩,⟨cO,.load false 1 cK,(cu,true)⟩,⟨dv,.un .not cO,(cu,true)⟩,oP dx cu dv]
def I3:List J:=[oM db k0,oC dB aL [db,(I 0)],⟨cV,.field false 3 1 dB,none⟩,⟨eH,.build [(.str 0 0),(I 0),(.str 0 0),.nils,(I 0),(.str 0 0),.nils,.nils,.nils,(I 0),(.bool false)] [(0,1,cV)],none⟩,⟨k7,.new [(.str 0 0),(I 0),(.str 0 0),.nils,(I 0),(.str 0 0),.nils,.nils,.nils,(I 0),(.bool false)],none⟩,oS 11 k7 eH]
def I5:List J:=[oM fh k0,oC ic ah [fh,(.v (.str 1 58))]]
def I6:List J:=[oM fJ k0,oC hU hZ [fJ],oF jm 1 k7,oS 3 jm hU]
def GM:List J:=[oM gu k0,oC jK ah [gu,(.v (.str 2 11580))]]
def vQ:List J:=[oM mj k1,oM mu mj,oT mv k0 mu,⟨jB,.callF ao [mv,(.v (.str 6 128009175786866))],(mu,true)⟩,oP mS mu jB]
def GN:List J:=[oF lY 10 k7,⟨none,.store 1 lY (.v (.bool true)),none⟩]
def vO:List J:=[oM iX k0,oC oK fi [iX],oF qZ 4 k7,oS 6 qZ oK]
def qF:List J:=[oM jv k5,oA q9 11 k7,⟨qV,.bslice 11 1 [(.str 0 0),(I 0),(.str 0 0),.nils,(I 0),(.str 0 0),.nils,.nils,.nils,(I 0),(.bool false)] [(0,11,q9)],none⟩,⟨qW,.append 11 jv qV,none⟩,oM k5 qW]
def qG:List J:=[oM qX k0,oC sg ao [qX,(.v (.str 1 44))],oM k6 sg]
def I2:U:=(.seq (.seq sx (.cond dx .skip (.exit 0))) (.block 1 (.seq I3 (.seq I5 (.seq I6 (.seq GM (.seq (.seq vQ (.cond mS GN vO)) (.seq qF qG))))))))
def iP:List J:=[oM rC k0,oC vH ah [rC,(.v (.str 1 41))]]
def iQ:List J:=[oM vk k5,oM k4 vk]
def Ae:eG:=⟨(.seq IW (.seq IX (.seq (.seq IY (.cond bW (.seq IZ .ret) .skip)) (.seq I0 (.seq I1 (.seq (.block 0 (.loop I2)) (.seq iP (.seq iQ .ret)))))))),[.tmp k4]⟩
def JK:List J:=[oM k7 k0,oC k8 ah [k7,(.v (.str 1 123))]]
def JL:List J:=[oM k9 k0,oC bM cG [k9,(.v (.str 5 461229090915))],oM bW bM,oQ cr k0 bW,⟨cu,.callF cG [cr,(.v (.str 5 495857003619))],(bW,false)⟩,⟨bZ,.pick bW (.v (.bool true)) cu,none⟩,oM cv bZ,oQ cK k0 cv,⟨cO,.callF cG [cK,(.v (.str 5 469919427683))],(cv,false)⟩,⟨dv,.pick cv (.v (.bool true)) cO,none⟩]
def zv:List J:=[oM dx k0,oC db ao [dx,(.v (.str 5 469919427683))]]
def zG:List J:=[oM dB k0,oC cV aL [dB,(I 0)],⟨eH,.field false 3 1 cV,none⟩,oM fh k0,oC ic aL [fh,(I 2)],⟨fJ,.field false 2 1 ic,none⟩,⟨hU,.build [(.str 0 0),(I 0),(I 0)] [(0,1,eH),(1,1,fJ)],none⟩,⟨k4,.new [(.str 0 0),(I 0),(I 0)],none⟩,oS 3 k4 hU]
def zH:List J:=[oM jm k0,oC gu ah [jm,(.v (.str 1 47))]]
def zI:List J:=[oM jK k0,oC mj aL [jK,(I 2)],⟨mu,.field false 2 1 mj,none⟩,oF mv 2 k4,oS 1 mv mu]
def zJ:List bx:=[.L 0 (oM jB k1),.L 1 (oM mS k1),.L 2 (oN lY mS),.L 3 (oF iX 25 lY),.L 4 (oL oK 1 iX),.L 5 (oA qZ 3 k4),.A 6 ⟨jv,.bslice 3 1 [(.str 0 0),(I 0),(I 0)] [(0,3,qZ)],none⟩,.H 7 ⟨q9,.append 3 oK jv,none⟩ [6],.R [],.L 8 (oN qV jB),.L 9 (oF qW 25 qV),.H 10 (oS 1 qW q9) [6],.R []]
def zK:List J:=[oM qX k0,oC sg cG [qX,(.v (.str 5 461229090915))],oM k5 sg]
def zL:List J:=[oM rC k0,oN vH rC,oF vk 2 vH,oL vF 1 vk,⟨uD,.bin .add vF (I 1),none⟩,oN ue rC,oF BD 2 ue,oS 1 BD uD]
def zM:List J:=[oM Ez k0,oC Le aL [Ez,(I 0)],⟨Lf,.field false 3 1 Le,none⟩,⟨Iz,.build [(.str 0 0),(I 0),(.str 0 0),(I 0),.nils,.nils,.nils,(I 0)] [(0,1,Lf)],none⟩,⟨k6,.new [(.str 0 0),(I 0),(.str 0 0),(I 0),.nils,.nils,.nils,(I 0)],none⟩,oS 8 k6 Iz]
def wT:List J:=[oM NT k0,oC H7 ah [NT,(.v (.str 1 58))]]
def wU:List J:=[oM Gt k0,oC Lg aS [Gt],oF Mv 1 k6,oS 7 Mv Lg]
def wV:List J:=[oM NU k5]
def wW:List bx:=[.L 0 (oM NV k1),.L 1 (oM Om k1),.L 2 (oN Rr Om),.L 3 (oF Pb 23 Rr),.L 4 (oL Mw 1 Pb),.L 5 (oA H8 8 k6),.A 6 ⟨Mx,.bslice 8 1 [(.str 0 0),(I 0),(.str 0 0),(I 0),.nils,.nils,.nils,(I 0)] [(0,8,H8)],none⟩,.H 7 ⟨Lh,.append 8 Mw Mx,none⟩ [6],.R [],.L 8 (oN Pc NV),.L 9 (oF Li 23 Pc),.H 10 (oS 1 Li Lh) [6],.R []]
def wX:List bx:=[.L 0 (oM Pd k1),.L 1 (oM NW k1),.L 2 (oN Se NW),.L 3 (oF Sf 24 Se),.L 4 (oL Uz 1 Sf),.L 5 (oA VL 8 k6),.A 6 ⟨UA,.bslice 8 1 [(.str 0 0),(I 0),(.str 0 0),(I 0),.nils,.nils,.nils,(I 0)] [(0,8,VL)],none⟩,.H 7 ⟨Vq,.append 8 Uz UA,none⟩ [6],.R [],.L 8 (oN Ly Pd),.L 9 (oF Vr 24 Ly),.H 10 (oS 1 Vr Vq) [6],.R []]
def qN:List J:=[oM Ww k0,oC VM ah [Ww,(.v (.str 1 59))]]
def JM:U:=(.seq (.seq JL (.cond dv .skip (.exit 0))) (.block 1 (.seq (.seq zv (.cond db (.seq zG (.seq zH (.seq zI (.staged zJ ⟨[jB,mS,lY,iX,oK,qZ,jv,q9,qV,qW],[]⟩)))) (.seq zK (.seq zL (.seq zM (.seq wT (.seq wU (.seq wV (.cond NU (.staged wW ⟨[NV,Om,Rr,Pb,Mw,H8,Mx,Lh,Pc,Li],[]⟩) (.staged wX ⟨[Pd,NW,Se,Sf,Uz,VL,UA,Vq,Ly,Vr],[]⟩)))))))))) qN)))
def lv:List J:=[oM VN k0,oC Sh ah [VN,(.v (.str 1 125))]]
def AD:eG:=⟨(.seq JK (.seq (.block 0 (.loop JM)) lv)),[]⟩
def JN:List J:=[oM k4 k0,oC k5 ah [k4,(.v (.str 1 40))]]
def JO:List J:=[oM k6 k0,oC k7 ah [k6,(.v (.str 1 115))]]
def JP:List J:=[oM k8 k0,oC k9 ah [k8,(.v (.str 1 58))]]
def JQ:List J:=[oM bM k1,oM bW k0,oC cr hZ [bW],oN cu bM,oF bZ 26 cu,oS 3 bZ cr]
def JR:List J:=[oM cv k0,oC cK ah [cv,(.v (.str 1 61))]]
def JS:List J:=[oM cO k1,oM dv k0,oC dx aS [dv],oN db cO,oF dB 29 db,oS 7 dB dx]
def JT:List J:=[oM cV k0,oC eH ah [cV,(.v (.str 1 41))]]
def AE:eG:=⟨(.seq JN (.seq JO (.seq JP (.seq JQ (.seq JR (.seq JS JT)))))),[]⟩
def CI:List J:=[oM k5 k0,oC k6 ah [k5,(.v (.str 1 123))]]
def CJ:List J:=[oM k7 k0,oC k8 ao [k7,(.v (.str 7 28268862397837155))]]
def CL:List J:=[oM k9 k0,oC bM aL [k9,(I 0)],⟨bW,.field false 3 1 bM,none⟩,⟨cr,.build [(.str 0 0),.nils,(I 0),(.str 0 0),(I 0),.nils,.nils,.nils,(I 0),(I 0),(.str 0 0),(I 0),.nils,.nils,.nils,(I 0),(I 0),(.str 0 0),(I 0),.nils,.nils,.nils,(I 0)] [(0,1,bW)],none⟩,⟨k4,.new [(.str 0 0),.nils,(I 0),(.str 0 0),(I 0),.nils,.nils,.nils,(I 0),(I 0),(.str 0 0),(I 0),.nils,.nils,.nils,(I 0),(I 0),(.str 0 0),(I 0),.nils,.nils,.nils,(I 0)],none⟩,oS 23 k4 cr]
def CM:List J:=[oM cu k0,oC bZ pg [cu,(.v (.bool true))],oF cv 1 k4,oS 1 cv bZ]
def CN:List J:=[oM cK k0,oC cO ah [cK,(.v (.str 3 6648432))]]
def CO:List J:=[oM dv k0,oC dx aS [dv],oF db 2 k4,oS 7 db dx]
def CP:List J:=[oM dB k0,oC cV ah [dB,(.v (.str 4 1954047342))]]
def CQ:List J:=[oM eH k0,oC fh aS [eH],oF ic 9 k4,oS 7 ic fh]
def CS:List J:=[oM fJ k0,oC hU ah [fJ,(.v (.str 4 1953722224))]]
def CU:List J:=[oM jm k0,oC gu aS [jm],oF jK 16 k4,oS 7 jK gu]
def A7:List J:=[oM mj k0,oC mu ah [mj,(.v (.str 1 59))]]
def A9:List bx:=[.L 0 (oM mv k1),.L 1 (oM jB k1),.L 2 (oN mS jB),.L 3 (oF lY 36 mS),.L 4 (oL iX 1 lY),.L 5 (oA oK 23 k4),.A 6 ⟨qZ,.bslice 23 1 [(.str 0 0),.nils,(I 0),(.str 0 0),(I 0),.nils,.nils,.nils,(I 0),(I 0),(.str 0 0),(I 0),.nils,.nils,.nils,(I 0),(I 0),(.str 0 0),(I 0),.nils,.nils,.nils,(I 0)] [(0,23,oK)],none⟩,.H 7 ⟨jv,.append 23 iX qZ,none⟩ [6],.R [],.L 8 (oN q9 mv),.L 9 (oF qV 36 q9),.H 10 (oS 1 qV jv) [6],.R []]
def CV:U:=(.seq (.seq CJ (.cond k8 .skip (.exit 0))) (.block 1 (.seq CL (.seq CM (.seq CN (.seq CO (.seq CP (.seq CQ (.seq CS (.seq CU (.seq A7 (.staged A9 ⟨[mv,jB,mS,lY,iX,oK,qZ,jv,q9,qV],[]⟩))))))))))))
def Ba:List J:=[oM qW k0,oC qX ah [qW,(.v (.str 1 125))]]
def sS:eG:=⟨(.seq CI (.seq (.block 0 (.loop CV)) Ba)),[]⟩
def Qs:List J:=[oM k6 k0,oC k7 ah [k6,(.v (.str 1 123))]]
def Qt:List J:=[oM k8 k0,oC k9 ao [k8,(.v (.str 2 28783))]]
def Qu:List J:=[oM bM k0,oC bW aL [bM,(I 0)],⟨cr,.field false 3 1 bW,none⟩,⟨cu,.build [(.str 0 0),.nils,.nils] [(0,1,cr)],none⟩,⟨k4,.new [(.str 0 0),.nils,.nils],none⟩,oS 3 k4 cu]
def Qv:List J:=[oM bZ k0,oC cv mW [bZ],oF cK 1 k4,oS 1 cK cv]
def Qw:List J:=[oM cO k0,oC dv ah [cO,(.v (.str 1 123))]]
def Qx:List J:=[oM dx k0,oC db ao [dx,(.v (.str 4 1885697139))]]
def Qy:List J:=[oM dB k0,oC cV aS [dB],⟨eH,.build [(I 0),(.str 0 0),(I 0),.nils,.nils,.nils,(I 0),(I 0),(.str 0 0),(I 0),.nils,.nils,.nils,(I 0)] [(0,7,cV)],none⟩,⟨k5,.new [(I 0),(.str 0 0),(I 0),.nils,.nils,.nils,(I 0),(I 0),(.str 0 0),(I 0),.nils,.nils,.nils,(I 0)],none⟩,oS 14 k5 eH]
def Qz:List J:=[oM fh k0,oC ic ah [fh,(.v (.str 1 44))]]
def QA:List J:=[oM fJ k0,oC hU aS [fJ],oF jm 7 k5,oS 7 jm hU]
def QB:List J:=[oM gu k0,oC jK ah [gu,(.v (.str 1 59))]]
def Np:List J:=[oF mj 2 k4,oL mu 1 mj,oA mv 14 k5,⟨jB,.bslice 14 1 [(I 0),(.str 0 0),(I 0),.nils,.nils,.nils,(I 0),(I 0),(.str 0 0),(I 0),.nils,.nils,.nils,(I 0)] [(0,14,mv)],none⟩,⟨mS,.append 14 mu jB,none⟩,oF lY 2 k4,oS 1 lY mS]
def QC:U:=(.seq (.seq Qx (.cond db .skip (.exit 2))) (.block 3 (.seq Qy (.seq Qz (.seq QA (.seq QB Np))))))
def Nq:List J:=[oM iX k0,oC oK ah [iX,(.v (.str 1 125))]]
def Nr:List bx:=[.L 0 (oM qZ k1),.L 1 (oM jv k1),.L 2 (oN q9 jv),.L 3 (oF qV 37 q9),.L 4 (oL qW 1 qV),.L 5 (oA qX 3 k4),.A 6 ⟨sg,.bslice 3 1 [(.str 0 0),.nils,.nils] [(0,3,qX)],none⟩,.H 7 ⟨rC,.append 3 qW sg,none⟩ [6],.R [],.L 8 (oN vH qZ),.L 9 (oF vk 37 vH),.H 10 (oS 1 vk rC) [6],.R []]
def QD:U:=(.seq (.seq Qt (.cond k9 .skip (.exit 0))) (.block 1 (.seq Qu (.seq Qv (.seq Qw (.seq (.block 2 (.loop QC)) (.seq Nq (.staged Nr ⟨[qZ,jv,q9,qV,qW,qX,sg,rC,vH,vk],[]⟩))))))))
def Ns:List J:=[oM vF k0,oC uD ah [vF,(.v (.str 1 125))]]
def Hx:eG:=⟨(.seq Qs (.seq (.block 0 (.loop QD)) Ns)),[]⟩
def Bb:List J:=[oB k3 k1]
def Bc:List J:=[oM bW k0,oA cr 45 k3,oC cu jQ [bW,cr]]
def Bd:List J:=[oF bZ 0 k3,oL cv 1 bZ,oE cK cv 0]
def rL:List J:=[oM cO k0,oF dv 1 k3,oL dx 1 dv,oC db aJ [cO,dx,(I 1)]]
def rM:List J:=[oM dB k0,oF cV 1 k3,oL eH 1 cV,oC fh aJ [dB,eH,(I 0)]]
def rN:List J:=[oF ic 0 k3,oL fJ 1 ic]
def iz:List J:=[oE jm fJ 0,oM hU jm]
def iA:List J:=[oM gu k0,oF jK 3 k3,oL mj 1 jK,oZ mu mj,⟨mv,.bin .gtr mu (I 0),none⟩,oC jB au [gu,mv]]
def iD:List J:=[oM mS k0,oF lY 3 k3,oL iX 1 lY,oZ oK iX,oC qZ aP [mS,oK]]
def lz:List J:=[oJ k4 (I 0)]
def jR:List J:=[oM jv k4,oF q9 3 k3,oL qV 1 q9,oZ qW qV,⟨qX,.bin .lss jv qW,none⟩]
def xR:List J:=[oM vH k0,oF vk 3 k3,oL vF 1 vk,oM uD k4,oI ue 2 vF uD,oF BD 0 ue,oL Ez 1 BD,oC Le aJ [vH,Ez,(I 1)]]
def pZ:List J:=[oM Lf k0,oF Iz 3 k3,oL NT 1 Iz,oM H7 k4,oI Gt 2 NT H7,oF Lg 1 Gt,oL Mv 1 Lg,oZ NU Mv,oC NV aP [Lf,NU]]
def p6:List J:=[oJ k5 (I 0)]
def jS:List J:=[oM Om k5,oF Rr 3 k3,oL Pb 1 Rr,oM Mw k4,oI H8 2 Pb Mw,oF Mx 1 H8,oL Lh 1 Mx,oZ Pc Lh,⟨Li,.bin .lss Om Pc,none⟩]
def xS:List J:=[oM Se k0,oF Sf 3 k3,oL Uz 1 Sf,oM VL k4,oI UA 2 Uz VL,oF Vq 1 UA,oL Ly 1 Vq,oM Vr k5,oI Ww 3 Ly Vr,oA VM 3 Ww,oC VN cA [Se,VM]]
def xT:List J:=[oM Pd k5,⟨NW,.bin .add Pd (I 1),none⟩,oM k5 NW]
def rO:U:=(.seq (.seq jS (.cond Li .skip (.exit 3))) (.seq (.block 4 xS) xT))
def jT:List J:=[oM sg k4,⟨rC,.bin .add sg (I 1),none⟩,oM k4 rC]
def lG:U:=(.seq (.seq jR (.cond qX .skip (.exit 1))) (.seq (.block 2 (.seq xR (.seq pZ (.seq p6 (.block 3 (.loop rO)))))) jT))
def gv:List J:=[oE XY fJ 1,oM Sh XY]
def jU:List J:=[oM XZ k0,oF Xi 4 k3,oL X7 1 Xi,oC X8 et [XZ,X7]]
def jV:List J:=[oM UB k0,oF VO 5 k3,oA YO 3 VO,oC Z9 cA [UB,YO]]
def jW:List J:=[oM k96 k0,oF YP 8 k3,oA VP 7 YP,oC YQ bF [k96,VP]]
def gI:List J:=[oE AZ fJ 2,oM yK AZ]
def jX:List J:=[oM qY k0,oF BR 4 k3,oL Dy 1 BR,oC BS et [qY,Dy]]
def jY:List J:=[oM DB k0,oF DC 5 k3,oA wa 3 DC,oC BT cA [DB,wa]]
def jZ:List J:=[oM EW k0,oF DD 15 k3,oL BU 1 DD,oC AY cE [EW,BU,(I 0)]]
def j7:List J:=[oM DG k0,oF Gu 16 k3,oA Gv 6 Gu,oC NX iw [DG,Gv]]
def gK:List J:=[oE Je fJ 3,oM EX Je]
def j8:List J:=[oM Lz k0,oF Jf 22 k3,oL DH 1 Jf,oC EY iy [Lz,DH,(.v (.bool false))]]
def j9:List J:=[oM Jg k0,oF RC 23 k3,oL RD 1 RC,oC VQ fL [Jg,RD]]
def kc:List J:=[oM TA k0,oF RE 24 k3,oL RF 1 RE,oC VR fL [TA,RF]]
def gL:List J:=[oM Gy k0,oF RG 25 k3,oL TB 1 RG,oZ RH TB,oC TC aP [Gy,RH]]
def ke:List J:=[oJ k6 (I 0)]
def kg:List J:=[oM Jh k6,oF VS 25 k3,oL VT 1 VS,oZ TH VT,⟨LB,.bin .lss Jh TH,none⟩]
def xU:List J:=[oM VV k0,oF YS 25 k3,oL YT 1 YS,oM YU k6,oI aaq 3 YT YU,oF PI 0 aaq,oL aca 1 PI,oC adI aJ [VV,aca,(I 0)]]
def xV:List J:=[oM adJ k0,oF acb 25 k3,oL acd 1 acb,oM ace k6,oI acf 3 acd ace,oF adK 1 acf,oL YV 1 adK,oC adL cE [adJ,YV,(I 0)]]
def xW:List J:=[oM acg k0,oF adM 25 k3,oL YW 1 adM,oM ach k6,oI aci 3 YW ach,oF acj 2 aci,oL adN 1 acj,oC adO cE [acg,adN,(I 0)]]
def xX:List J:=[oM VU k6,⟨Xj,.bin .add VU (I 1),none⟩,oM k6 Xj]
def lH:U:=(.seq (.seq kg (.cond LB .skip (.exit 5))) (.seq (.block 6 (.seq xU (.seq xV xW))) xX))
def gM:List J:=[oE ack fJ 4,oM YX ack]
def kh:List J:=[oM adP k0,oF acm 26 k3,oA acn 3 acm,oC aii cA [adP,acn]]
def ki:List J:=[oM afh k0,oF aij 29 k3,oA aco 7 aij,oC aik bF [afh,aco]]
def gO:List J:=[oM afi k0,oF afj 36 k3,oL ail 1 afj,oZ afk ail,oC aim aP [afi,afk]]
def kj:List J:=[oJ k7 (I 0)]
def kl:List J:=[oM afl k7,oF ain 36 k3,oL afm 1 ain,oZ afn afm,⟨aio,.bin .lss afl afn,none⟩]
def xY:List J:=[oF aip 36 k3,oL afo 1 aip,oM afp k7,oI afq 23 afo afp,oA afr 23 afq,⟨k8,.new [(.str 0 0),.nils,(I 0),(.str 0 0),(I 0),.nils,.nils,.nils,(I 0),(I 0),(.str 0 0),(I 0),.nils,.nils,.nils,(I 0),(I 0),(.str 0 0),(I 0),.nils,.nils,.nils,(I 0)],none⟩,oS 23 k8 afr]
def p7:List J:=[oM afs k0,oF aft 0 k8,oL afu 1 aft,oC aiq aJ [afs,afu,(I 0)]]
def p8:List J:=[oM air k0,oF afv 1 k8,oL afw 1 afv,oC ais iy [air,afw,(.v (.bool true))]]
def p9:List J:=[oM afx k0,oF afy 2 k8,oA afz 7 afy,oC ait bF [afx,afz]]
def qb:List J:=[oM afA k0,oF afB 9 k8,oA afC 7 afB,oC ajR bF [afA,afC]]
def qc:List J:=[oM aiu k0,oF ajS 16 k8,oA ajT 7 ajS,oC amJ bF [aiu,ajT]]
def km:List J:=[oM afD k7,⟨afE,.bin .add afD (I 1),none⟩,oM k7 afE]
def lI:U:=(.seq (.seq kl (.cond aio .skip (.exit 7))) (.seq (.block 8 (.seq xY (.seq p7 (.seq p8 (.seq p9 (.seq qb qc)))))) km))
def gP:List J:=[oE ajU fJ 5,oM afF ajU]
def ko:List J:=[oM ajV k0,oF ajW 26 k3,oA afG 3 ajW,oC amK cA [ajV,afG]]
def kq:List J:=[oM ajX k0,oF ajY 29 k3,oA aar 7 ajY,oC amL bF [ajX,aar]]
def kr:List J:=[oM ajZ k0,oF aj0 38 k3,oA aj1 7 aj0,oC amM bF [ajZ,aj1]]
def gQ:List J:=[oM aj2 k0,oF aas 37 k3,oL aj3 1 aas,oZ aj4 aj3,oC amN aP [aj2,aj4]]
def ku:List J:=[oJ k9 (I 0)]
def kz:List J:=[oM aj5 k9,oF aj6 37 k3,oL aj7 1 aj6,oZ amO aj7,⟨aj8,.bin .lss aj5 amO,none⟩]
def xZ:List J:=[oM aj9 k0,oF aka 37 k3,oL akb 1 aka,oM akc k9,oI akd 3 akb akc,oF ake 0 akd,oL akf 1 ake,oC amP aJ [aj9,akf,(I 0)]]
def ya:List J:=[oM amQ k0,oF aqH 37 k3,oL aqI 1 aqH,oM aqJ k9,oI aqK 3 aqI aqJ,oF aqL 1 aqK,oL aqM 1 aqL,oC avv et [amQ,aqM]]
def qd:List J:=[oM aqN k0,oF aqO 37 k3,oL aqP 1 aqO,oM aqQ k9,oI aqR 3 aqP aqQ,oF aqS 2 aqR,oL aqT 1 aqS,oZ aqU aqT,oC avw aP [aqN,aqU]]
def qf:List J:=[oJ bM (I 0)]
def kI:List J:=[oM aqV bM,oF aqW 37 k3,oL aqX 1 aqW,oM aqY k9,oI aqZ 3 aqX aqY,oF aq0 2 aqZ,oL aq1 1 aq0,oZ aq2 aq1,⟨aq3,.bin .lss aqV aq2,none⟩]
def yb:List J:=[oM aq4 k0,oF aq5 37 k3,oL aq6 1 aq5,oM aq7 k9,oI aq8 3 aq6 aq7,oF aq9 2 aq8,oL ara 1 aq9,oM arb bM,oI arc 14 ara arb,oF ard 0 arc,oA arf 7 ard,oC avx bF [aq4,arf]]
def yc:List J:=[oM arh k0,oF ari 37 k3,oL arj 1 ari,oM ark k9,oI arl 3 arj ark,oF arn 2 arl,oL aro 1 arn,oM arp bM,oI arq 14 aro arp,oF ars 7 arq,oA art 7 ars,oC avy bF [arh,art]]
def yd:List J:=[oM aru bM,⟨arv,.bin .add aru (I 1),none⟩,oM bM arv]
def rP:U:=(.seq (.seq kI (.cond aq3 .skip (.exit 11))) (.seq (.block 12 (.seq yb yc)) yd))
def kJ:List J:=[oM akg k9,⟨akh,.bin .add akg (I 1),none⟩,oM k9 akh]
def lK:U:=(.seq (.seq kz (.cond aj8 .skip (.exit 9))) (.seq (.block 10 (.seq xZ (.seq ya (.seq qd (.seq qf (.block 11 (.loop rP))))))) kJ))
def qO:eG:=⟨(.seq Bb (.seq Bc (.seq (.seq Bd (.cond cK rL rM)) (.seq rN (.block 0 (.seq iz (.cond hU (.seq iA (.seq iD (.seq lz (.block 1 (.loop lG))))) (.seq gv (.cond Sh (.seq jU (.seq jV jW)) (.seq gI (.cond yK (.seq jX (.seq jY (.seq jZ j7))) (.seq gK (.cond EX (.seq j8 (.seq j9 (.seq kc (.seq gL (.seq ke (.block 5 (.loop lH))))))) (.seq gM (.cond YX (.seq kh (.seq ki (.seq gO (.seq kj (.block 7 (.loop lI)))))) (.seq gP (.cond afF (.seq ko (.seq kq (.seq kr (.seq gQ (.seq ku (.block 9 (.loop lK))))))) .skip))))))))))))))))),[]⟩
def JU:List J:=[oJ k0 .nils]
def jA:List J:=[⟨k1,.bslice 1 22 [(.str 0 0)] [(0,1,(.v (.str 2 15917))),(1,1,(.v (.str 2 11580))),(2,1,(.v (.str 2 15676))),(3,1,(.v (.str 2 15677))),(4,1,(.v (.str 2 15649))),(5,1,(.v (.str 2 11822))),(6,1,(.v (.str 1 40))),(7,1,(.v (.str 1 41))),(8,1,(.v (.str 1 91))),(9,1,(.v (.str 1 93))),(10,1,(.v (.str 1 123))),(11,1,(.v (.str 1 125))),(12,1,(.v (.str 1 44))),(13,1,(.v (.str 1 59))),(14,1,(.v (.str 1 58))),(15,1,(.v (.str 1 61))),(16,1,(.v (.str 1 60))),(17,1,(.v (.str 1 43))),(18,1,(.v (.str 1 45))),(19,1,(.v (.str 1 42))),(20,1,(.v (.str 1 47))),(21,1,(.v (.str 1 124)))],none⟩,oM k0 k1]
def AF:eG:=⟨(.seq JU (.seq jA .ret)),[.tmp k0]⟩
def SC:List J:=[oJ k4 (.bool false)]
def uj:List bx:=[.L 0 (oM k5 k0),.L 1 (oN k6 k5),.L 2 (oF k7 3 k6),.L 3 (oL k8 1 k7),.L 4 ⟨k9,.un .not k8,none⟩,.L 5 (oM bM k9),.L 6 (oT bW k0 bM),.L 7 ⟨cr,.nilc bW,(bM,true)⟩,.L 8 ⟨cu,.fieldA 2 cr,(bM,true)⟩,.L 9 ⟨bZ,.load false 1 cu,(bM,true)⟩,.L 10 (oT cv k0 bM),.L 11 ⟨cK,.nilc cv,(bM,true)⟩,.L 12 ⟨cO,.fieldA 1 cK,(bM,true)⟩,.L 13 ⟨dv,.load false 1 cO,(bM,true)⟩,.L 14 ⟨dx,.lenL dv,(bM,true)⟩,.L 15 ⟨db,.bin .lss bZ dx,(bM,true)⟩,.L 16 (oP dB bM db),.L 17 (oM cV dB),.L 18 (oT eH k0 cV),.L 19 ⟨fh,.nilc eH,(cV,true)⟩,.L 20 ⟨ic,.fieldA 1 fh,(cV,true)⟩,.L 21 ⟨fJ,.load false 1 ic,(cV,true)⟩,.L 22 (oT hU k0 cV),.L 23 ⟨jm,.nilc hU,(cV,true)⟩,.L 24 ⟨gu,.fieldA 2 jm,(cV,true)⟩,.L 25 ⟨jK,.load false 1 gu,(cV,true)⟩,.L 26 ⟨mj,.indexL 4 fJ jK,(cV,true)⟩,.L 27 ⟨mu,.fieldA 3 mj,(cV,true)⟩,.L 28 ⟨mv,.load false 1 mu,(cV,true)⟩,.L 29 (oT jB k1 cV),.L 30 ⟨mS,.bin .eql mv jB,(cV,true)⟩,.L 31 (oP lY cV mS),.L 32 (oM k4 lY)]
def vo:eG:=⟨(.seq SC (.seq (.staged uj ⟨[k5,k6,k7,k8,k9,bM,bW,cr,cu,bZ,cv,cK,cO,dv,dx,db,dB,cV,eH,fh,ic,fJ,hU,jm,gu,jK,mj,mu,mv,jB,mS,lY,k4],[]⟩) .ret)),[.tmp k4]⟩
def Nt:List J:=[oJ k4 (.bool false)]
def kX:List bx:=[.L 0 (oM k5 k0),.L 1 (oN k6 k5),.L 2 (oF k7 3 k6),.L 3 (oL k8 1 k7),.L 4 ⟨k9,.un .not k8,none⟩,.L 5 (oM bM k9),.L 6 (oT bW k0 bM),.L 7 ⟨cr,.nilc bW,(bM,true)⟩,.L 8 ⟨cu,.fieldA 2 cr,(bM,true)⟩,.L 9 ⟨bZ,.load false 1 cu,(bM,true)⟩,.L 10 (oT cv k0 bM),.L 11 ⟨cK,.nilc cv,(bM,true)⟩,.L 12 ⟨cO,.fieldA 1 cK,(bM,true)⟩,.L 13 ⟨dv,.load false 1 cO,(bM,true)⟩,.L 14 ⟨dx,.lenL dv,(bM,true)⟩,.L 15 ⟨db,.bin .lss bZ dx,(bM,true)⟩,.L 16 (oP dB bM db),.L 17 (oM cV dB),.L 18 (oT eH k0 cV),.L 19 ⟨fh,.nilc eH,(cV,true)⟩,.L 20 ⟨ic,.fieldA 1 fh,(cV,true)⟩,.L 21 ⟨fJ,.load false 1 ic,(cV,true)⟩,.L 22 (oT hU k0 cV),.L 23 ⟨jm,.nilc hU,(cV,true)⟩,.L 24 ⟨gu,.fieldA 2 jm,(cV,true)⟩,.L 25 ⟨jK,.load false 1 gu,(cV,true)⟩,.L 26 ⟨mj,.indexL 4 fJ jK,(cV,true)⟩,.L 27 ⟨mu,.fieldA 0 mj,(cV,true)⟩,.L 28 ⟨mv,.load false 1 mu,(cV,true)⟩,.L 29 (oT jB k1 cV),.L 30 ⟨mS,.bin .eql mv jB,(cV,true)⟩,.L 31 (oP lY cV mS),.L 32 (oM iX lY),.L 34 (oT qZ k0 iX),.L 35 ⟨jv,.nilc qZ,(iX,true)⟩,.L 36 ⟨q9,.fieldA 1 jv,(iX,true)⟩,.L 37 ⟨qV,.load false 1 q9,(iX,true)⟩,.L 38 (oT qW k0 iX),.L 39 ⟨qX,.nilc qW,(iX,true)⟩,.L 40 ⟨sg,.fieldA 2 qX,(iX,true)⟩,.L 41 ⟨rC,.load false 1 sg,(iX,true)⟩,.L 42 ⟨vH,.indexL 4 qV rC,(iX,true)⟩,.L 43 ⟨vk,.fieldA 3 vH,(iX,true)⟩,.L 44 ⟨vF,.load false 1 vk,(iX,true)⟩,.H 33 ⟨oK,.callF mX [],(iX,true)⟩ [],.R [(37,⟨qV,.load false 1 q9,(iX,true)⟩),(41,⟨rC,.load false 1 sg,(iX,true)⟩),(44,⟨vF,.load false 1 vk,(iX,true)⟩)],.H 45 ⟨uD,.callF vl [oK,vF],(iX,true)⟩ [],.R [],.L 46 ⟨ue,.un .not uD,(iX,true)⟩,.L 47 (oP BD iX ue),.L 48 (oM k4 BD)]
def DT:eG:=⟨(.seq Nt (.seq (.staged kX ⟨[k5,k6,k7,k8,k9,bM,bW,cr,cu,bZ,cv,cK,cO,dv,dx,db,dB,cV,eH,fh,ic,fJ,hU,jm,gu,jK,mj,mu,mv,jB,mS,lY,iX,oK,qZ,jv,q9,qV,qW,qX,sg,rC,vH,vk,vF,uD,ue,BD,k4],[]⟩) .ret)),[.tmp k4]⟩
def Nu:List J:=[⟨k2,.new [(I 0),(.str 0 0),.nils,.nils,.nils,(I 0)],none⟩]
def Nv:List J:=[oM k9 k0,oC bM fq [k9],oM k3 bM]
def Nx:List J:=[oM bW k0,oC cr ao [bW,(.v (.str 6 121437875889522))]]
def Ny:List J:=[oM cu k3,oM bZ k0,oC cv aS [bZ],⟨cK,.bslice 7 1 [(I 0),(.str 0 0),(I 0),.nils,.nils,.nils,(I 0)] [(0,7,cv)],none⟩,⟨cO,.build [(I 0),(.str 0 0),.nils,.nils,.nils,(I 0)] [(0,1,(I 0)),(5,1,cu),(3,1,cK)],none⟩,oS 6 k2 cO]
def Nz:List J:=[oM dv k0,oC dx ao [dv,(.v (.str 4 1801677168))]]
def NC:List J:=[oM db k3,oM dB k0,oC cV mL [dB],⟨eH,.build [(I 0),(.str 0 0),.nils,.nils,.nils,(I 0)] [(0,1,(I 1)),(5,1,db),(3,1,cV)],none⟩,oS 6 k2 eH]
def NI:List J:=[oM fh k0,oC ic ao [fh,(.v (.str 4 1953720684))]]
def NJ:List J:=[oM fJ k3,oM hU k0,oC jm mL [hU],⟨gu,.build [(I 0),(.str 0 0),.nils,.nils,.nils,(I 0)] [(0,1,(I 3)),(5,1,fJ),(3,1,jm)],none⟩,⟨k4,.new [(I 0),(.str 0 0),.nils,.nils,.nils,(I 0)],none⟩,oS 6 k4 gu]
def NK:List J:=[oM jK k0,oC mj ah [jK,(.v (.str 2 26223))]]
def NL:List J:=[oM mu k0,oC mv rq [mu],⟨jB,.bslice 6 1 [(I 0),(.str 0 0),.nils,.nils,.nils,(I 0)] [(0,6,mv)],none⟩,oF mS 4 k4,oS 1 mS jB]
def JV:List J:=[oA lY 6 k4,oS 6 k2 lY]
def JW:List J:=[oM iX k0,oC oK ao [iX,(.v (.str 1 40))]]
def JX:List J:=[oM qZ k0,oC jv fi [qZ],⟨k5,.new [(I 0),(.str 0 0),.nils,.nils,.nils,(I 0)],none⟩,oS 6 k5 jv]
def JY:List J:=[oM q9 k0,oC qV ah [q9,(.v (.str 1 41))]]
def JZ:List J:=[oA qW 6 k5,oS 6 k2 qW]
def J0:List J:=[oM qX k3,⟨sg,.build [(I 0),(.str 0 0),.nils,.nils,.nils,(I 0)] [(0,1,(I 2)),(5,1,qX)],none⟩,⟨k6,.new [(I 0),(.str 0 0),.nils,.nils,.nils,(I 0)],none⟩,oS 6 k6 sg]
def J1:List J:=[oM rC k0,oC vH ao [rC,(.v (.str 3 6647407))]]
def zN:List J:=[oM vk k0,oC vF ah [vk,(.v (.str 1 123))]]
def zO:List J:=[oJ k7 (.bool true)]
def sT:List J:=[oM uD k7,oM ue uD,oT BD k0 ue,⟨Ez,.nilc BD,(ue,true)⟩,⟨Le,.fieldA 3 Ez,(ue,true)⟩,⟨Lf,.load false 1 Le,(ue,true)⟩,⟨Iz,.un .not Lf,(ue,true)⟩,oP NT ue Iz]
def J2:List bx:=[.L 0 (oF H7 2 k6),.L 1 (oL Gt 1 H7),.L 2 (oM Lg k0),.H 3 (oC Mv aL [Lg,(I 2)]) [],.R [(1,oL Gt 1 H7)],.L 4 ⟨NU,.field false 2 1 Mv,none⟩,.A 5 ⟨NV,.bslice 1 1 [(I 0)] [(0,1,NU)],none⟩,.H 6 ⟨Om,.append 1 Gt NV,none⟩ [5],.R [],.L 7 (oF Rr 2 k6),.H 8 (oS 1 Rr Om) [5],.R []]
def J3:List J:=[oM Pb k0,oC Mw ah [Pb,(.v (.str 1 58))]]
def J4:List bx:=[.L 0 (oF H8 4 k6),.L 1 (oL Mx 1 H8),.L 2 (oM Lh k0),.H 3 (oC Pc fi [Lh]) [],.R [(1,oL Mx 1 H8)],.A 4 ⟨Li,.bslice 6 1 [(I 0),(.str 0 0),.nils,.nils,.nils,(I 0)] [(0,6,Pc)],none⟩,.H 5 ⟨Pd,.append 6 Mx Li,none⟩ [4],.R [],.L 6 (oF NW 4 k6),.H 7 (oS 1 NW Pd) [4],.R []]
def J5:List J:=[oM Se k0,oC Sf ao [Se,(.v (.str 1 59))],oM k7 Sf]
def Cl:U:=(.seq (.seq sT (.cond NT .skip (.exit 0))) (.block 1 (.seq (.staged J2 ⟨[H7,Gt,Lg,Mv,NU,NV,Om,Rr],[]⟩) (.seq J3 (.seq (.staged J4 ⟨[H8,Mx,Lh,Pc,Li,Pd,NW],[]⟩) J5)))))
def sU:List J:=[oM Uz k0,oC VL ah [Uz,(.v (.str 1 125))]]
def sW:List J:=[oA UA 6 k6,oS 6 k2 UA]
def J6:List J:=[oM Vq k0,oC Ly ao [Vq,(.v (.str 4 1701536109))]]
def zP:List J:=[oF Vr 0 k6,⟨none,.store 1 Vr (I 4),none⟩]
def zQ:List J:=[oM Ww k0,oC VM aL [Ww,(I 1)],⟨VN,.field false 3 1 VM,none⟩,oF Sh 1 k6,oS 1 Sh VN]
def zR:List J:=[oM XY k0,oC XZ ah [XY,(.v (.str 1 40))]]
def zS:List J:=[oM Xi k0,oC X7 ao [Xi,(.v (.str 1 41))],⟨X8,.un .not X7,none⟩,oM k8 X8]
def sX:List J:=[oM UB k8,oM VO UB,oT YO k0 VO,⟨Z9,.nilc YO,(VO,true)⟩,⟨k96,.fieldA 3 Z9,(VO,true)⟩,⟨YP,.load false 1 k96,(VO,true)⟩,⟨VP,.un .not YP,(VO,true)⟩,oP YQ VO VP]
def J7:List bx:=[.L 0 (oF yK 4 k6),.L 1 (oL AZ 1 yK),.L 2 (oM qY k0),.H 3 (oC BR fi [qY]) [],.R [(1,oL AZ 1 yK)],.A 4 ⟨Dy,.bslice 6 1 [(I 0),(.str 0 0),.nils,.nils,.nils,(I 0)] [(0,6,BR)],none⟩,.H 5 ⟨BS,.append 6 AZ Dy,none⟩ [4],.R [],.L 6 (oF DB 4 k6),.H 7 (oS 1 DB BS) [4],.R []]
def J8:List J:=[oM DC k0,oC wa ao [DC,(.v (.str 1 44))],oM k8 wa]
def zT:List J:=[oM BT k8,⟨EW,.un .not BT,none⟩]
def J9:List J:=[oM DD k0,oC BU ah [DD,(.v (.str 1 41))]]
def Cm:U:=(.seq (.seq sX (.cond YQ .skip (.exit 2))) (.block 3 (.seq (.staged J7 ⟨[yK,AZ,qY,BR,Dy,BS,DB],[]⟩) (.seq J8 (.seq zT (.cond EW J9 .skip))))))
def sY:List J:=[oA AY 6 k6,oS 6 k2 AY]
def yE:List J:=[oF DG 0 k6,⟨none,.store 1 DG (I 7),none⟩]
def yF:List J:=[oM Gu k0,oC Gv aL [Gu,(I 0)],⟨NX,.field false 3 1 Gv,none⟩,oF EX 1 k6,oS 1 EX NX]
def yG:List J:=[oM Je k0,oC Lz ah [Je,(.v (.str 1 40))]]
def yH:List J:=[oM Jf k0,oC DH fF [Jf,(.v (.str 1 41))],oF EY 3 k6,oS 1 EY DH]
def yI:List J:=[oA Jg 6 k6,oS 6 k2 Jg]
def DU:eG:=⟨(.seq Nu (.seq Nv (.seq (.seq Nx (.cond cr (.seq Ny .ret) .skip)) (.seq (.seq Nz (.cond dx (.seq NC .ret) .skip)) (.seq (.seq NI (.cond ic (.seq NJ (.seq NK (.seq NL (.seq JV .ret)))) .skip)) (.seq (.seq JW (.cond oK (.seq JX (.seq JY (.seq JZ .ret))) .skip)) (.seq J0 (.seq (.seq J1 (.cond vH (.seq zN (.seq zO (.seq (.block 0 (.loop Cl)) (.seq sU (.seq sW .ret))))) .skip)) (.seq (.seq J6 (.cond Ly (.seq zP (.seq zQ (.seq zR (.seq zS (.seq (.block 2 (.loop Cm)) (.seq sY .ret)))))) .skip)) (.seq yE (.seq yF (.seq yG (.seq yH (.seq yI .ret)))))))))))))),[.cell k2 true 6]⟩
def Ka:List J:=[⟨k4,.new [(I 0),(.str 0 0),(I 0),.nils,.nils,.nils,(I 0)],none⟩]
def Kb:List J:=[oM k7 k1,oM k8 k0,oC k9 aS [k8],⟨bM,.bslice 7 1 [(I 0),(.str 0 0),(I 0),.nils,.nils,.nils,(I 0)] [(0,7,k9)],none⟩,⟨bW,.build [(I 0),(.str 0 0),(I 0),.nils,.nils,.nils,(I 0)] [(0,1,(I 8)),(6,1,k7),(5,1,bM)],none⟩,⟨k5,.new [(I 0),(.str 0 0),(I 0),.nils,.nils,.nils,(I 0)],none⟩,oS 7 k5 bW]
def Kc:List J:=[oM cr k0,oC cu ah [cr,(.v (.str 1 123))]]
def Kd:List J:=[oJ k6 (.bool true)]
def sZ:List J:=[oM bZ k6,oM cv bZ,oT cK k0 cv,⟨cO,.nilc cK,(cv,true)⟩,⟨dv,.fieldA 3 cO,(cv,true)⟩,⟨dx,.load false 1 dv,(cv,true)⟩,⟨db,.un .not dx,(cv,true)⟩,oP dB cv db]
def Ke:List bx:=[.L 0 (oF cV 3 k5),.L 1 (oL eH 1 cV),.L 2 (oM fh k0),.H 3 (oC ic aL [fh,(I 1)]) [],.R [(1,oL eH 1 cV)],.L 4 ⟨fJ,.field false 3 1 ic,none⟩,.A 5 ⟨hU,.bslice 1 1 [(.str 0 0)] [(0,1,fJ)],none⟩,.H 6 ⟨jm,.append 1 eH hU,none⟩ [5],.R [],.L 7 (oF gu 3 k5),.H 8 (oS 1 gu jm) [5],.R []]
def Kg:List bx:=[.L 0 (oF jK 4 k5),.L 1 (oL mj 1 jK),.L 2 (oM mu k0),.H 3 (oC mv uW [mu]) [],.R [(1,oL mj 1 jK)],.A 4 ⟨jB,.bslice 1 1 [.nils] [(0,1,mv)],none⟩,.H 5 ⟨mS,.append 1 mj jB,none⟩ [4],.R [],.L 6 (oF lY 4 k5),.H 7 (oS 1 lY mS) [4],.R []]
def Kh:List J:=[oM iX k0,oC oK ah [iX,(.v (.str 2 15917))]]
def Ki:List bx:=[.L 0 (oF qZ 5 k5),.L 1 (oL jv 1 qZ),.L 2 (oM q9 k0),.H 3 (oC qV aS [q9]) [],.R [(1,oL jv 1 qZ)],.A 4 ⟨qW,.bslice 7 1 [(I 0),(.str 0 0),(I 0),.nils,.nils,.nils,(I 0)] [(0,7,qV)],none⟩,.H 5 ⟨qX,.append 7 jv qW,none⟩ [4],.R [],.L 6 (oF sg 5 k5),.H 7 (oS 1 sg qX) [4],.R []]
def Kj:List J:=[oM rC k0,oC vH ao [rC,(.v (.str 1 59))],oM k6 vH]
def Kk:U:=(.seq (.seq sZ (.cond dB .skip (.exit 0))) (.block 1 (.seq (.staged Ke ⟨[cV,eH,fh,ic,fJ,hU,jm,gu],[]⟩) (.seq (.staged Kg ⟨[jK,mj,mu,mv,jB,mS,lY],[]⟩) (.seq Kh (.seq (.staged Ki ⟨[qZ,jv,q9,qV,qW,qX,sg],[]⟩) Kj))))))
def wY:List J:=[oM vk k0,oC vF ah [vk,(.v (.str 1 125))]]
def wZ:List J:=[oA uD 7 k5,oS 7 k4 uD]
def AG:eG:=⟨(.seq Ka (.seq Kb (.seq Kc (.seq Kd (.seq (.block 0 (.loop Kk)) (.seq wY (.seq wZ .ret))))))),[.cell k4 true 7]⟩
def ta:List J:=[⟨k4,.new [(I 0),(.str 0 0),(I 0),.nils,.nils,.nils,(I 0)],none⟩]
def td:List J:=[oM k9 k0,oC bM fq [k9],oM k5 bM]
def tf:List J:=[oM bW k1,oE cr bW 3]
def Kl:List J:=[oM cu k0,oC bZ ao [cu,(.v (.str 3 7630702))]]
def Km:List J:=[oM cv k5,oM cK k0,oC cO fD [cK,(I 3)],⟨dv,.bslice 7 1 [(I 0),(.str 0 0),(I 0),.nils,.nils,.nils,(I 0)] [(0,7,cO)],none⟩,⟨dx,.build [(I 0),(.str 0 0),(I 0),.nils,.nils,.nils,(I 0)] [(0,1,(I 9)),(1,1,(.v (.str 3 7630702))),(6,1,cv),(5,1,dv)],none⟩,oS 7 k4 dx]
def Kn:List J:=[oM db k0,oC dB fD [db,(I 4)],oS 7 k4 dB]
def zU:List J:=[oM cV k1,oE eH cV 7]
def Ko:List J:=[oM fh k0,oC ic lq [fh],oS 7 k4 ic]
def Kp:List J:=[oM fJ k0,oM hU k1,⟨jm,.bin .add hU (I 1),none⟩,oC gu fD [fJ,jm],⟨k6,.new [(I 0),(.str 0 0),(I 0),.nils,.nils,.nils,(I 0)],none⟩,oS 7 k6 gu]
def Kq:List J:=[oM jK k0,oM mj k1,oC mu jE [jK,mj],oM k7 mu]
def w7:List J:=[oM mv k7,⟨jB,.bin .neq mv (.v (.str 0 0)),none⟩]
def Hy:List J:=[oM mS k0,oM lY k7,oC iX ah [mS,lY]]
def Hz:List J:=[oM oK k0,oM qZ k1,⟨jv,.bin .add qZ (I 1),none⟩,oC q9 fD [oK,jv],⟨k8,.new [(I 0),(.str 0 0),(I 0),.nils,.nils,.nils,(I 0)],none⟩,oS 7 k8 q9]
def HA:List J:=[oM qV k7,oM qW k5,oA qX 7 k6,oA sg 7 k8,⟨rC,.bslice 7 2 [(I 0),(.str 0 0),(I 0),.nils,.nils,.nils,(I 0)] [(0,7,qX),(7,7,sg)],none⟩,⟨vH,.build [(I 0),(.str 0 0),(I 0),.nils,.nils,.nils,(I 0)] [(0,1,(I 9)),(1,1,qV),(6,1,qW),(5,1,rC)],none⟩,oS 7 k6 vH]
def HB:List J:=[oM vk k0,oM vF k1,oC uD jE [vk,vF],oM k7 uD]
def w9:List J:=[oM ue k1,oE BD ue 4]
def HC:List J:=[oJ k7 (.str 0 0)]
def Kr:U:=(.seq (.seq w7 (.cond jB .skip (.exit 0))) (.block 1 (.seq Hy (.seq Hz (.seq HA (.seq HB (.seq w9 (.cond BD HC .skip))))))))
def HD:List J:=[oA Ez 7 k6,oS 7 k4 Ez]
def pQ:eG:=⟨(.seq ta (.seq td (.seq (.seq tf (.cond cr (.seq (.seq Kl (.cond bZ (.seq Km .ret) .skip)) (.seq Kn .ret)) .skip)) (.seq (.seq zU (.cond eH (.seq Ko .ret) .skip)) (.seq Kp (.seq Kq (.seq (.block 0 (.loop Kr)) (.seq HD .ret)))))))),[.cell k4 true 7]⟩
def xa:List J:=[oB k3 k1]
def xb:List J:=[oF k9 0 k3,oL bM 1 k9,oM k4 bM]
def xc:List J:=[oM bW k4,oE cr bW 1,oM k5 cr]
def xd:List J:=[oM cu k4,oE bZ cu 2,oM k6 bZ]
def xe:List J:=[oM cv k4,oE cK cv 3,oM k7 cK]
def nS:List J:=[oM cO k4,oE dv cO 4,oM dx dv,oQ db k4 dx,⟨dB,.bin .eql db (I 5),(dx,false)⟩,⟨cV,.pick dx (.v (.bool true)) dB,none⟩,oM k8 cV]
def fm:List J:=[oM eH k0,oM fh k4,⟨ic,.bin .geq fh (I 0),none⟩,oM fJ ic,oT hU k4 fJ,⟨jm,.bin .leq hU (I 5),(fJ,true)⟩,oP gu fJ jm,oC jK au [eH,gu]]
def cj:List J:=[oM mj k0,oM mu k4,oE mv mu 0,oM jB mv,⟨mS,.fieldA 3 k3,(jB,false)⟩,⟨lY,.load false 1 mS,(jB,false)⟩,⟨iX,.lenL lY,(jB,false)⟩,⟨oK,.bin .eql iX (I 0),(jB,false)⟩,⟨qZ,.pick jB (.v (.bool true)) oK,none⟩,oC jv au [mj,qZ]]
def bN:List J:=[oM q9 k0,oM qV k5,oM qW qV,oQ qX k6 qW,⟨sg,.pick qW (.v (.bool true)) qX,none⟩,oM rC sg,⟨vH,.fieldA 4 k3,(rC,false)⟩,⟨vk,.load false 1 vH,(rC,false)⟩,⟨vF,.lenL vk,(rC,false)⟩,⟨uD,.bin .eql vF (I 0),(rC,false)⟩,oQ ue uD rC,⟨BD,.fieldA 5 k3,(ue,true)⟩,⟨Ez,.load true 3 BD,(ue,true)⟩,⟨Le,.callF mY [Ez],(ue,true)⟩,⟨Lf,.pick ue Le (.v (.bool false)),(rC,false)⟩,⟨Iz,.pick rC (.v (.bool true)) Lf,none⟩,oC NT au [q9,Iz]]
def cp:List J:=[oM H7 k0,oM Gt k5,oM Lg Gt,⟨Mv,.fieldA 8 k3,(Lg,false)⟩,⟨NU,.load true 7 Mv,(Lg,false)⟩,⟨NV,.callF jw [NU],(Lg,false)⟩,⟨Om,.pick Lg (.v (.bool true)) NV,none⟩,oC Rr au [H7,Om]]
def bK:List J:=[oM Pb k0,oM Mw k6,oM H8 Mw,⟨Mx,.fieldA 15 k3,(H8,false)⟩,⟨Lh,.load false 1 Mx,(H8,false)⟩,⟨Pc,.bin .eql Lh (I 0),(H8,false)⟩,oQ Li Pc H8,⟨Pd,.fieldA 16 k3,(Li,true)⟩,⟨NW,.load true 6 Pd,(Li,true)⟩,⟨Se,.callF py [NW],(Li,true)⟩,⟨Sf,.pick Li Se (.v (.bool false)),(H8,false)⟩,⟨Uz,.pick H8 (.v (.bool true)) Sf,none⟩,oC VL au [Pb,Uz]]
def ae:List J:=[oM UA k0,oM Vq k7,oM Ly Vq,⟨Vr,.fieldA 22 k3,(Ly,false)⟩,⟨Ww,.load false 1 Vr,(Ly,false)⟩,⟨VM,.lenL Ww,(Ly,false)⟩,⟨VN,.bin .eql VM (I 0),(Ly,false)⟩,oQ Sh VN Ly,⟨XY,.fieldA 23 k3,(Sh,true)⟩,⟨XZ,.load false 1 XY,(Sh,true)⟩,⟨Xi,.lenL XZ,(Sh,true)⟩,⟨X7,.bin .eql Xi (I 0),(Sh,true)⟩,⟨X8,.pick Sh X7 (.v (.bool false)),(Ly,false)⟩,oQ UB X8 Ly,⟨VO,.fieldA 24 k3,(UB,true)⟩,⟨YO,.load false 1 VO,(UB,true)⟩,⟨Z9,.lenL YO,(UB,true)⟩,⟨k96,.bin .eql Z9 (I 0),(UB,true)⟩,⟨YP,.pick UB k96 (.v (.bool false)),(Ly,false)⟩,oQ VP YP Ly,⟨YQ,.fieldA 25 k3,(VP,true)⟩,⟨yK,.load false 1 YQ,(VP,true)⟩,⟨AZ,.lenL yK,(VP,true)⟩,⟨qY,.bin .eql AZ (I 0),(VP,true)⟩,⟨BR,.pick VP qY (.v (.bool false)),(Ly,false)⟩,⟨Dy,.pick Ly (.v (.bool true)) BR,none⟩,oC BS au [UA,Dy]]
def bz:List J:=[oM DB k0,oM DC k8,oM wa DC,⟨BT,.fieldA 26 k3,(wa,false)⟩,⟨EW,.load true 3 BT,(wa,false)⟩,⟨DD,.callF mY [EW],(wa,false)⟩,oQ BU DD wa,⟨AY,.fieldA 29 k3,(BU,true)⟩,⟨DG,.load true 7 AY,(BU,true)⟩,⟨Gu,.callF jw [DG],(BU,true)⟩,⟨Gv,.pick BU Gu (.v (.bool false)),(wa,false)⟩,⟨NX,.pick wa (.v (.bool true)) Gv,none⟩,oC EX au [DB,NX]]
def aV:List J:=[oM Je k0,oM Lz k4,oE Jf Lz 4,oM DH Jf,⟨EY,.fieldA 36 k3,(DH,false)⟩,⟨Jg,.load false 1 EY,(DH,false)⟩,⟨RC,.lenL Jg,(DH,false)⟩,⟨RD,.bin .eql RC (I 0),(DH,false)⟩,⟨VQ,.pick DH (.v (.bool true)) RD,none⟩,oC TA au [Je,VQ]]
def aR:List J:=[oM RE k0,oM RF k4,oE VR RF 5,oM Gy VR,⟨RG,.fieldA 37 k3,(Gy,false)⟩,⟨TB,.load false 1 RG,(Gy,false)⟩,⟨RH,.lenL TB,(Gy,false)⟩,⟨TC,.bin .eql RH (I 0),(Gy,false)⟩,oQ Jh TC Gy,⟨VS,.fieldA 38 k3,(Jh,true)⟩,⟨VT,.load true 7 VS,(Jh,true)⟩,⟨TH,.callF jw [VT],(Jh,true)⟩,⟨LB,.pick Jh TH (.v (.bool false)),(Gy,false)⟩,⟨VU,.pick Gy (.v (.bool true)) LB,none⟩,oC Xj au [RE,VU]]
def mz:eG:=⟨(.seq xa (.seq xb (.seq xc (.seq xd (.seq xe (.seq nS (.seq fm (.seq cj (.seq bN (.seq cp (.seq bK (.seq ae (.seq bz (.seq aV aR)))))))))))))),[]⟩
def ye:List J:=[oM bM k1,oC bW rI [bM],oM k9 bW,oX cr k9 0,oX cu k9 1,oX bZ k9 2,oM k6 cr,oM k7 cu,oM k8 bZ]
def cF:List J:=[oM cv k0,oM cK k0,oN cO cK,oF dv 2 cO,oL dx 1 dv,oM db dx,oQ dB k8 db,⟨cV,.bin .neq dB (I 0),(db,false)⟩,⟨eH,.pick db (.v (.bool true)) cV,none⟩,oM fh eH,oQ ic k6 fh,⟨fJ,.lenL ic,(fh,false)⟩,⟨hU,.bin .neq fJ (I 1),(fh,false)⟩,⟨jm,.pick fh (.v (.bool true)) hU,none⟩,oM gu jm,oQ jK k6 gu,⟨mj,.indexL 4 jK (I 0),(gu,false)⟩,⟨mu,.fieldA 0 mj,(gu,false)⟩,⟨mv,.load false 1 mu,(gu,false)⟩,oQ jB k2 gu,⟨mS,.bin .neq mv jB,(gu,false)⟩,⟨lY,.pick gu (.v (.bool true)) mS,none⟩,oM iX lY,oQ oK k6 iX,⟨qZ,.indexL 4 oK (I 0),(iX,false)⟩,⟨jv,.fieldA 3 qZ,(iX,false)⟩,⟨q9,.load false 1 jv,(iX,false)⟩,oQ qV k1 iX,⟨qW,.bin .neq q9 qV,(iX,false)⟩,⟨qX,.pick iX (.v (.bool true)) qW,none⟩,oM sg qX,⟨rC,.callF mX [],(sg,false)⟩,oQ vH k1 sg,⟨vk,.callF vl [rC,vH],(sg,false)⟩,⟨vF,.pick sg (.v (.bool true)) vk,none⟩,oN uD cv,oF ue 2 uD,oS 1 ue vF]
def nT:eG:=⟨(.seq ye cF),[]⟩
def tM:List J:=[oM k4 k0,oM k5 k0,oN k6 k5,oF k7 1 k6,oL k8 1 k7,oM k9 k8,oQ bM k1 k9,⟨bW,.un .not bM,(k9,false)⟩,⟨cr,.pick k9 (.v (.bool true)) bW,none⟩,oN cu k4,oF bZ 1 cu,oS 1 bZ cr]
def tg:eG:=⟨tM,[]⟩
def rQ:List J:=[oM k4 k0,oM k5 k0,oN k6 k5,oF k7 0 k6,oL k8 1 k7,oM k9 k8,oQ bM k1 k9,⟨bW,.bin .gtr bM (I 16),(k9,false)⟩,⟨cr,.pick k9 (.v (.bool true)) bW,none⟩,oN cu k4,oF bZ 0 cu,oS 1 bZ cr]
def qP:eG:=⟨rQ,[]⟩
def CW:List J:=[oB k3 k1]
def tN:List J:=[oM k4 k0,oM k5 k0,oN k6 k5,oF k7 0 k6,oL k8 1 k7,oM k9 k8,⟨bM,.load true 3 k3,(k9,false)⟩,⟨bW,.callF lu [bM],(k9,false)⟩,⟨cr,.bin .gtr bW (I 32),(k9,false)⟩,⟨cu,.pick k9 (.v (.bool true)) cr,none⟩,oN bZ k4,oF cv 0 bZ,oS 1 cv cu]
def tO:List J:=[oM cK k0,oA cO 3 k3,oC dv ja [cK,cO]]
def th:eG:=⟨(.seq CW (.seq tN tO)),[]⟩
def nU:List J:=[oM k5 k0,oM k6 k1,oZ k7 k6,oC k8 aP [k5,k7]]
def nV:List J:=[oJ k4 (I 0)]
def jn:List J:=[oM k9 k4,oM bM k1,oZ bW bM,⟨cr,.bin .lss k9 bW,none⟩]
def xf:List J:=[oM cv k0,oM cK k1,oM cO k4,oI dv 4 cK cO,oF dx 0 dv,oL db 1 dx,oC dB aJ [cv,db,(I 0)]]
def xg:List J:=[oM cV k0,oM eH k1,oM fh k4,oI ic 4 eH fh,oF fJ 1 ic,oA hU 3 fJ,oC jm cA [cV,hU]]
def xh:List J:=[oM cu k4,⟨bZ,.bin .add cu (I 1),none⟩,oM k4 bZ]
def nW:U:=(.seq (.seq jn (.cond cr .skip (.exit 0))) (.seq (.block 1 (.seq xf xg)) xh))
def mI:eG:=⟨(.seq nU (.seq nV (.block 0 (.loop nW)))),[]⟩
def Be:List J:=[oB k3 k1]
def rR:List J:=[oM k4 k0,oM k5 k0,oN k6 k5,oF k7 0 k6,oL k8 1 k7,oM k9 k8,⟨bM,.load true 7 k3,(k9,false)⟩,⟨bW,.callF iT [bM],(k9,false)⟩,⟨cr,.bin .gtr bW (I 32),(k9,false)⟩,⟨cu,.pick k9 (.v (.bool true)) cr,none⟩,oN bZ k4,oF cv 0 bZ,oS 1 cv cu]
def rS:List J:=[oM cK k0,oA cO 7 k3,oC dv dV [cK,cO]]
def qQ:eG:=⟨(.seq Be (.seq rR rS)),[]⟩
def jo:List J:=[oM k6 k0,oM k7 k0,oN k8 k7,oF k9 3 k8,oL bM 1 k9,oM bW bM,oQ cr k1 bW,oQ cu k2 bW,⟨bZ,.bin .lss cr cu,(bW,false)⟩,⟨cv,.pick bW (.v (.bool true)) bZ,none⟩,oM cK cv,oQ cO k1 cK,⟨dv,.bin .gtr cO (I 1099511627776),(cK,false)⟩,⟨dx,.pick cK (.v (.bool true)) dv,none⟩,oN db k6,oF dB 3 db,oS 1 dB dx]
def mJ:eG:=⟨jo,[]⟩
def yf:List J:=[oB k3 k1]
def qh:List J:=[oM k4 k0,oM k5 k0,oN k6 k5,oF k7 0 k6,oL k8 1 k7,oM k9 k8,⟨bM,.load true 6 k3,(k9,false)⟩,⟨bW,.callF mZ [bM],(k9,false)⟩,⟨cr,.bin .gtr bW (I 32),(k9,false)⟩,⟨cu,.pick k9 (.v (.bool true)) cr,none⟩,oN bZ k4,oF cv 0 bZ,oS 1 cv cu]
def qi:List J:=[oM cK k0,oA cO 6 k3,oC dv gX [cK,cO]]
def nX:eG:=⟨(.seq yf (.seq qh qi)),[]⟩
def qj:List J:=[oM k7 k0,oM k8 k1,oZ k9 k8,oC bM aP [k7,k9]]
def qk:List J:=[oJ k6 (I 0)]
def kK:List J:=[oM bW k6,oM cr k1,oZ cu cr,⟨bZ,.bin .lss bW cu,none⟩]
def yg:List J:=[oM cO k0,oM dv k1,oM dx k6,oI db 11 dv dx,oF dB 0 db,oL cV 1 dB,oC eH aJ [cO,cV,(I 0)]]
def yh:List J:=[oM fh k0,oM ic k1,oM fJ k6,oI hU 11 ic fJ,oF jm 1 hU,oA gu 3 jm,oC jK cA [fh,gu]]
def yi:List J:=[oM mj k1,oM mu k6,oI mv 11 mj mu,oF jB 10 mv,oL mS 1 jB]
def qo:List J:=[oM lY k0,oM iX k2,oM oK iX,oT qZ k1 oK,oT jv k6 oK,⟨q9,.indexL 11 qZ jv,(oK,true)⟩,⟨qV,.fieldA 4 q9,(oK,true)⟩,⟨qW,.load true 6 qV,(oK,true)⟩,⟨qX,.callF py [qW],(oK,true)⟩,oP sg oK qX,oC rC au [lY,sg]]
def yj:List J:=[oM vH k0,oM vk k1,oM vF k6,oI uD 11 vk vF,oF ue 4 uD,oA BD 6 ue,oC Ez iw [vH,BD]]
def qq:List J:=[oM cv k6,⟨cK,.bin .add cv (I 1),none⟩,oM k6 cK]
def qv:U:=(.seq (.seq kK (.cond bZ .skip (.exit 0))) (.seq (.block 1 (.seq yg (.seq yh (.seq yi (.cond mS qo yj))))) qq))
def nY:eG:=⟨(.seq qj (.seq qk (.block 0 (.loop qv)))),[]⟩
def nL:List J:=[oM k5 k0,oM k6 k1,oZ k7 k6,oC k8 aP [k5,k7]]
def nI:List J:=[oJ k4 (I 0)]
def jl:List J:=[oM k9 k4,oM bM k1,oZ bW bM,⟨cr,.bin .lss k9 bW,none⟩]
def vR:List J:=[oM cv k0,oM cK k1,oM cO k4,oI dv 8 cK cO,oF dx 0 dv,oL db 1 dx,oC dB aJ [cv,db,(I 0)]]
def vS:List J:=[oM cV k0,oM eH k1,oM fh k4,oI ic 8 eH fh,oF fJ 1 ic,oA hU 7 fJ,oC jm bF [cV,hU]]
def vT:List J:=[oM cu k4,⟨bZ,.bin .add cu (I 1),none⟩,oM k4 bZ]
def nK:U:=(.seq (.seq jl (.cond cr .skip (.exit 0))) (.seq (.block 1 (.seq vR vS)) vT))
def mr:eG:=⟨(.seq nL (.seq nI (.block 0 (.loop nK)))),[]⟩
def QE:List J:=[oJ k4 (.bool false)]
def QF:List J:=[oJ k5 (I 0)]
def HE:List J:=[oM k6 k5,oM k7 k0,oZ k8 k7,⟨k9,.bin .lss k6 k8,none⟩]
def WE:List J:=[oM cr k0,oM cu k5,oI bZ 1 cr cu,oL cv 1 bZ,oM cK k1,⟨cO,.bin .eql cv cK,none⟩]
def WG:List J:=[oJ k4 (.bool true)]
def WH:List J:=[oM bM k5,⟨bW,.bin .add bM (I 1),none⟩,oM k5 bW]
def QG:U:=(.seq (.seq HE (.cond k9 .skip (.exit 0))) (.seq (.block 1 (.seq WE (.cond cO (.seq WG .ret) .skip))) WH))
def QH:List J:=[oJ k4 (.bool false)]
def QI:eG:=⟨(.seq QE (.seq (.seq QF (.block 0 (.loop QG))) (.seq QH .ret))),[.tmp k4]⟩
def HF:List J:=[oJ k0 .nils]
def lL:List J:=[⟨k1,.bslice 1 37 [(.str 0 0)] [(0,1,(.v (.str 3 6581857))),(1,1,(.v (.str 4 1819242338))),(2,1,(.v (.str 5 461229090915))),(3,1,(.v (.str 5 469919427683))),(4,1,(.v (.str 5 495857003619))),(5,1,(.v (.str 7 28268862397837155))),(6,1,(.v (.str 4 1702063205))),(7,1,(.v (.str 5 435728179558))),(8,1,(.v (.str 3 7239014))),(9,1,(.v (.str 3 7234919))),(10,1,(.v (.str 2 26217))),(11,1,(.v (.str 2 28265))),(12,1,(.v (.str 3 7630441))),(13,1,(.v (.str 3 7628140))),(14,1,(.v (.str 4 1953720684))),(15,1,(.v (.str 4 1701536109))),(16,1,(.v (.str 5 448345170285))),(17,1,(.v (.str 5 465557548909))),(18,1,(.v (.str 4 1954047342))),(19,1,(.v (.str 3 7630702))),(20,1,(.v (.str 2 26223))),(21,1,(.v (.str 3 6647407))),(22,1,(.v (.str 2 28783))),(23,1,(.v (.str 2 29295))),(24,1,(.v (.str 4 1801677168))),(25,1,(.v (.str 4 1953722224))),(26,1,(.v (.str 3 6648432))),(27,1,(.v (.str 4 1886351984))),(28,1,(.v (.str 7 32199706694346098))),(29,1,(.v (.str 6 128009175786866))),(30,1,(.v (.str 6 121437875889522))),(31,1,(.v (.str 4 1885697139))),(32,1,(.v (.str 6 120282512849267))),(33,1,(.v (.str 4 1852139636))),(34,1,(.v (.str 4 1702195828))),(35,1,(.v (.str 4 1701869940))),(36,1,(.v (.str 5 435710945399)))],none⟩,oM k0 k1]
def xi:eG:=⟨(.seq HF (.seq lL .ret)),[.tmp k0]⟩
def GA:List J:=[oJ k2 .nils]
def GB:List J:=[oM k4 k0,oC k5 aS [k4],⟨k3,.new [(I 0),(.str 0 0),(I 0),.nils,.nils,.nils,(I 0)],none⟩,oS 7 k3 k5]
def GC:List J:=[oM k6 k0,oC k7 ah [k6,(.v (.str 2 11822))]]
def GD:List bx:=[.L 0 (oA k8 7 k3),.L 1 (oM k9 k0),.H 2 (oC bM aS [k9]) [],.R [(0,oA k8 7 k3)],.A 3 ⟨bW,.bslice 7 2 [(I 0),(.str 0 0),(I 0),.nils,.nils,.nils,(I 0)] [(0,7,k8),(7,7,bM)],none⟩,.L 4 (oM k2 bW)]
def vI:eG:=⟨(.seq GA (.seq GB (.seq GC (.seq (.staged GD ⟨[k8,k9,bM,bW,k2],[]⟩) .ret)))),[.tmp k2]⟩
def Kt:List J:=[oJ k4 .nils]
def Ku:List J:=[oJ k5 .nils]
def Kv:List J:=[oM k7 k0,oM k8 k1,oC k9 ao [k7,k8]]
def Kw:List J:=[oJ k4 .nils]
def Ky:List J:=[oJ k6 (.bool true)]
def tj:List J:=[oM bM k6,oM bW bM,oT cr k0 bW,⟨cu,.nilc cr,(bW,true)⟩,⟨bZ,.fieldA 3 cu,(bW,true)⟩,⟨cv,.load false 1 bZ,(bW,true)⟩,⟨cK,.un .not cv,(bW,true)⟩,oP cO bW cK]
def Kz:List J:=[oM dv k5,oM dx k0,oC db aS [dx],⟨dB,.bslice 7 1 [(I 0),(.str 0 0),(I 0),.nils,.nils,.nils,(I 0)] [(0,7,db)],none⟩,⟨cV,.append 7 dv dB,none⟩,oM k5 cV]
def KA:List J:=[oM eH k0,oC fh ao [eH,(.v (.str 1 44))],oM k6 fh]
def KB:U:=(.seq (.seq tj (.cond cO .skip (.exit 0))) (.block 1 (.seq Kz KA)))
def zV:List J:=[oM ic k0,oM fJ k1,oC hU ah [ic,fJ]]
def zX:List J:=[oM jm k5,oM k4 jm]
def AH:eG:=⟨(.seq Kt (.seq Ku (.seq (.seq Kv (.cond k9 (.seq Kw .ret) .skip)) (.seq Ky (.seq (.block 0 (.loop KB)) (.seq zV (.seq zX .ret))))))),[.tmp k4]⟩
def KC:List J:=[oJ k2 .nils]
def KD:List J:=[oM k5 k0,oC k6 ao [k5,(.v (.str 1 40))],⟨k7,.un .not k6,none⟩]
def KE:List J:=[oJ k2 .nils]
def KF:List J:=[oJ k3 .nils]
def KG:List J:=[oJ k4 (.bool true)]
def tp:List J:=[oM k8 k4,oM k9 k8,oT bM k0 k9,⟨bW,.nilc bM,(k9,true)⟩,⟨cr,.fieldA 3 bW,(k9,true)⟩,⟨cu,.load false 1 cr,(k9,true)⟩,⟨bZ,.un .not cu,(k9,true)⟩,oP cv k9 bZ]
def KH:List J:=[oM cK k3,oM cO k0,oC dv aL [cO,(I 0)],⟨dx,.field false 3 1 dv,none⟩,⟨db,.bslice 1 1 [(.str 0 0)] [(0,1,dx)],none⟩,⟨dB,.append 1 cK db,none⟩,oM k3 dB]
def KI:List J:=[oM cV k0,oC eH ao [cV,(.v (.str 1 44))],oM k4 eH]
def KJ:U:=(.seq (.seq tp (.cond cv .skip (.exit 0))) (.block 1 (.seq KH KI)))
def zY:List J:=[oM fh k0,oC ic ah [fh,(.v (.str 1 41))]]
def zZ:List J:=[oM fJ k3,oM k2 fJ]
def AI:eG:=⟨(.seq KC (.seq (.seq KD (.cond k7 (.seq KE .ret) .skip)) (.seq KF (.seq KG (.seq (.block 0 (.loop KJ)) (.seq zY (.seq zZ .ret))))))),[.tmp k2]⟩
def FL:List J:=[⟨k2,.new [(I 0),(.str 0 0),(I 0),.nils,.nils,.nils,(I 0)],none⟩]
def FM:List J:=[oM k7 k0,oC k8 fq [k7],oM k3 k8]
def FN:List J:=[oM k9 k0,oC bM ao [k9,(.v (.str 1 45))]]
def FO:List J:=[oM bW k3,oM cr k0,oC cu aL [cr,(I 2)],⟨bZ,.field false 2 1 cu,none⟩,⟨cv,.un .neg bZ,none⟩,⟨cK,.build [(I 0),(.str 0 0),(I 0),.nils,.nils,.nils,(I 0)] [(0,1,(I 0)),(6,1,bW),(2,1,cv)],none⟩,oS 7 k2 cK]
def FP:List J:=[oM cO k0,oC dv ao [cO,(.v (.str 4 1702195828))]]
def FQ:List J:=[oM dx k3,⟨db,.build [(I 0),(.str 0 0),(I 0),.nils,.nils,.nils,(I 0)] [(0,1,(I 1)),(6,1,dx),(2,1,(I 1))],none⟩,oS 7 k2 db]
def FR:List J:=[oM dB k0,oC cV ao [dB,(.v (.str 5 435728179558))]]
def FU:List J:=[oM eH k3,⟨fh,.build [(I 0),(.str 0 0),(I 0),.nils,.nils,.nils,(I 0)] [(0,1,(I 1)),(6,1,eH)],none⟩,oS 7 k2 fh]
def FV:List J:=[oM ic k0,oC fJ ao [ic,(.v (.str 1 40))]]
def FW:List J:=[oM hU k0,oC jm aS [hU],⟨k4,.new [(I 0),(.str 0 0),(I 0),.nils,.nils,.nils,(I 0)],none⟩,oS 7 k4 jm]
def CX:List J:=[oM gu k0,oC jK ah [gu,(.v (.str 1 41))]]
def CY:List J:=[oA mj 7 k4,oS 7 k2 mj]
def CZ:List J:=[oM mu k0,oC mv ao [mu,(.v (.str 1 91))]]
def C1:List J:=[oM jB k3,oM mS k0,oC lY fF [mS,(.v (.str 1 93))],⟨iX,.build [(I 0),(.str 0 0),(I 0),.nils,.nils,.nils,(I 0)] [(0,1,(I 5)),(6,1,jB),(5,1,lY)],none⟩,oS 7 k2 iX]
def C2:List J:=[oM oK k0,oC qZ jM [oK,(I 2)]]
def C3:List J:=[oM jv k3,oM q9 k0,oC qV aL [q9,(I 2)],⟨qW,.field false 2 1 qV,none⟩,⟨qX,.build [(I 0),(.str 0 0),(I 0),.nils,.nils,.nils,(I 0)] [(0,1,(I 0)),(6,1,jv),(2,1,qW)],none⟩,oS 7 k2 qX]
def C4:List J:=[oM sg k0,oC rC jM [sg,(I 1)]]
def C5:List J:=[oM vH k3,oM vk k0,oC vF aL [vk,(I 1)],⟨uD,.field false 3 1 vF,none⟩,⟨ue,.build [(I 0),(.str 0 0),(I 0),.nils,.nils,.nils,(I 0)] [(0,1,(I 4)),(6,1,vH),(1,1,uD)],none⟩,⟨k5,.new [(I 0),(.str 0 0),(I 0),.nils,.nils,.nils,(I 0)],none⟩,oS 7 k5 ue]
def C6:List J:=[oM BD k0,oC Ez ao [BD,(.v (.str 1 40))]]
def C7:List J:=[oM Le k0,oC Lf fF [Le,(.v (.str 1 41))],oF Iz 5 k5,oS 1 Iz Lf]
def tQ:List J:=[oA NT 7 k5,oS 7 k2 NT]
def C8:List J:=[oM H7 k3,oM Gt k0,oC Lg aL [Gt,(I 0)],⟨Mv,.field false 3 1 Lg,none⟩,⟨NU,.build [(I 0),(.str 0 0),(I 0),.nils,.nils,.nils,(I 0)] [(0,1,(I 2)),(6,1,H7),(1,1,Mv)],none⟩,⟨k6,.new [(I 0),(.str 0 0),(I 0),.nils,.nils,.nils,(I 0)],none⟩,oS 7 k6 NU]
def C9:List J:=[oM NV k0,oC Om ao [NV,(.v (.str 1 40))]]
def Da:List J:=[oF Rr 0 k6,⟨none,.store 1 Rr (I 3),none⟩]
def Db:List J:=[oM Pb k0,oC Mw fF [Pb,(.v (.str 1 41))],oF H8 5 k6,oS 1 H8 Mw]
def tT:List J:=[oA Mx 7 k6,oS 7 k2 Mx]
def vd:eG:=⟨(.seq FL (.seq FM (.seq (.seq FN (.cond bM (.seq FO .ret) .skip)) (.seq (.seq FP (.cond dv (.seq FQ .ret) .skip)) (.seq (.seq FR (.cond cV (.seq FU .ret) .skip)) (.seq (.seq FV (.cond fJ (.seq FW (.seq CX (.seq CY .ret))) .skip)) (.seq (.seq CZ (.cond mv (.seq C1 .ret) .skip)) (.seq (.seq C2 (.cond qZ (.seq C3 .ret) .skip)) (.seq (.seq C4 (.cond rC (.seq C5 (.seq (.seq C6 (.cond Ez C7 .skip)) (.seq tQ .ret))) .skip)) (.seq C8 (.seq (.seq C9 (.cond Om (.seq Da Db) .skip)) (.seq tT .ret)))))))))))),[.cell k2 true 7]⟩
def Cv:List J:=[oJ k4 (.str 0 0)]
def Cw:List J:=[oM k7 k1,oC k8 lj [k7],oM k5 k8]
def Cx:List J:=[oJ k6 (I 0)]
def mq:List J:=[oM k9 k6,oM bM k5,oZ bW bM,⟨cr,.bin .lss k9 bW,none⟩]
def Cz:List J:=[oM cv k0,oM cK k5,oM cO k6,oI dv 1 cK cO,oL dx 1 dv,oC db cG [cv,dx]]
def CA:List J:=[oM dB k5,oM cV k6,oI eH 1 dB cV,oL fh 1 eH,oM k4 fh]
def CC:List J:=[oM cu k6,⟨bZ,.bin .add cu (I 1),none⟩,oM k6 bZ]
def Cy:U:=(.seq (.seq mq (.cond cr .skip (.exit 0))) (.seq (.block 1 (.seq Cz (.cond db (.seq CA .ret) .skip))) CC))
def tJ:List J:=[oJ k4 (.str 0 0)]
def sw:eG:=⟨(.seq Cv (.seq Cw (.seq (.seq Cx (.block 0 (.loop Cy))) (.seq tJ .ret)))),[.tmp k4]⟩
def HG:List J:=[oB k1 k0,oJ k2 (.bool false)]
def lM:List J:=[oF k3 0 k1,oL k4 1 k3,oE k5 k4 0,oM k6 k5,⟨k7,.fieldA 1 k1,(k6,true)⟩,⟨k8,.load false 1 k7,(k6,true)⟩,⟨k9,.bin .eql k8 (.v (.str 0 0)),(k6,true)⟩,oP bM k6 k9,oM bW bM,⟨cr,.fieldA 2 k1,(bW,true)⟩,⟨cu,.load false 1 cr,(bW,true)⟩,⟨bZ,.lenL cu,(bW,true)⟩,⟨cv,.bin .eql bZ (I 0),(bW,true)⟩,oP cK bW cv,oM k2 cK]
def xj:eG:=⟨(.seq HG (.seq lM .ret)),[.tmp k2]⟩
def HH:List J:=[oB k1 k0,oJ k2 (.bool false)]
def lN:List J:=[oF k3 0 k1,oL k4 1 k3,oE k5 k4 0,oM k6 k5,⟨k7,.fieldA 5 k1,(k6,true)⟩,⟨k8,.load false 1 k7,(k6,true)⟩,⟨k9,.lenL k8,(k6,true)⟩,⟨bM,.bin .eql k9 (I 0),(k6,true)⟩,oP bW k6 bM,oM cr bW,⟨cu,.load true 7 k1,(cr,true)⟩,⟨bZ,.callF cL [cu,(.v (.bool false)),(.v (.bool false)),(.v (.bool false))],(cr,true)⟩,oP cv cr bZ,oM k2 cv]
def xk:eG:=⟨(.seq HH (.seq lN .ret)),[.tmp k2]⟩
def KL:List J:=[oB k1 k0,oJ k2 (.bool false)]
def bu:List J:=[oF k3 0 k1,oL k4 1 k3,oE k5 k4 0,oM k6 k5,⟨k7,.fieldA 1 k1,(k6,true)⟩,⟨k8,.load false 1 k7,(k6,true)⟩,⟨k9,.bin .eql k8 (.v (.str 0 0)),(k6,true)⟩,oP bM k6 k9,oM bW bM,⟨cr,.fieldA 2 k1,(bW,true)⟩,⟨cu,.load false 1 cr,(bW,true)⟩,⟨bZ,.lenL cu,(bW,true)⟩,⟨cv,.bin .eql bZ (I 0),(bW,true)⟩,oP cK bW cv,oM cO cK,⟨dv,.fieldA 3 k1,(cO,true)⟩,⟨dx,.load false 1 dv,(cO,true)⟩,⟨db,.lenL dx,(cO,true)⟩,⟨dB,.bin .eql db (I 0),(cO,true)⟩,oP cV cO dB,oM eH cV,⟨fh,.fieldA 4 k1,(eH,true)⟩,⟨ic,.load false 1 fh,(eH,true)⟩,⟨fJ,.lenL ic,(eH,true)⟩,⟨hU,.bin .eql fJ (I 0),(eH,true)⟩,oP jm eH hU,oM k2 jm]
def AJ:eG:=⟨(.seq KL (.seq bu .ret)),[.tmp k2]⟩
def FX:List J:=[oB k1 k0,oJ k2 (I 0)]
def FY:List J:=[oJ k3 (I 0)]
def FZ:List J:=[oJ k4 (I 0)]
def nZ:List J:=[oM k5 k4,oF k6 2 k1,oL k7 1 k6,oZ k8 k7,⟨k9,.bin .lss k5 k8,none⟩]
def F8:List J:=[oM cr k3,oF cu 2 k1,oL bZ 1 cu,oM cv k4,oI cK 3 bZ cv,oA cO 3 cK,oC dv lu [cO],⟨dx,.mx true cr dv,none⟩,oM k3 dx]
def vp:List J:=[oM bM k4,⟨bW,.bin .add bM (I 1),none⟩,oM k4 bW]
def F9:U:=(.seq (.seq nZ (.cond k9 .skip (.exit 0))) (.seq (.block 1 F8) vp))
def vq:List J:=[oM db k3,⟨dB,.bin .add db (I 1),none⟩,oM k2 dB]
def ve:eG:=⟨(.seq FX (.seq FY (.seq (.seq FZ (.block 0 (.loop F9))) (.seq vq .ret)))),[.tmp k2]⟩
def Bf:List J:=[oB k3 k1]
def aj:List J:=[oM k5 k0,oF k6 0 k3,oL k7 1 k6,⟨k8,.bin .geq k7 (I 0),none⟩,oM k9 k8,⟨bM,.fieldA 0 k3,(k9,true)⟩,⟨bW,.load false 1 bM,(k9,true)⟩,⟨cr,.bin .leq bW (I 3),(k9,true)⟩,oP cu k9 cr,oM bZ cu,⟨cv,.fieldA 0 k3,(bZ,true)⟩,⟨cK,.load false 1 cv,(bZ,true)⟩,⟨cO,.bin .eql cK (I 2),(bZ,true)⟩,⟨dv,.fieldA 2 k3,(bZ,true)⟩,⟨dx,.load false 1 dv,(bZ,true)⟩,⟨db,.lenL dx,(bZ,true)⟩,⟨dB,.bin .eql db (I 1),(bZ,true)⟩,⟨cV,.eq false .bool cO dB,(bZ,true)⟩,oP eH bZ cV,oM fh eH,⟨ic,.fieldA 2 k3,(fh,true)⟩,⟨fJ,.load false 1 ic,(fh,true)⟩,⟨hU,.lenL fJ,(fh,true)⟩,⟨jm,.bin .leq hU (I 1),(fh,true)⟩,oP gu fh jm,oM jK gu,⟨mj,.fieldA 0 k3,(jK,true)⟩,⟨mu,.load false 1 mj,(jK,true)⟩,⟨mv,.bin .eql mu (I 3),(jK,true)⟩,oT jB mv jK,⟨mS,.fieldA 1 k3,(jB,false)⟩,⟨lY,.load false 1 mS,(jB,false)⟩,⟨iX,.bin .eql lY (.v (.str 0 0)),(jB,false)⟩,⟨oK,.pick jB (.v (.bool true)) iX,(jK,true)⟩,oP qZ jK oK,oC jv au [k5,qZ]]
def lO:List J:=[oF q9 0 k3,oL qV 1 q9,oE qW qV 3]
def rT:List J:=[oM qX k0,oF sg 1 k3,oL rC 1 sg,oC vH aJ [qX,rC,(I 1)]]
def lP:List J:=[oJ k4 (I 0)]
def lQ:List J:=[oM vk k4,oF vF 2 k3,oL uD 1 vF,oZ ue uD,⟨BD,.bin .lss vk ue,none⟩]
def Bg:List J:=[oM Lf k0,oF Iz 2 k3,oL NT 1 Iz,oM H7 k4,oI Gt 3 NT H7,oA Lg 3 Gt,oC Mv ja [Lf,Lg]]
def Bh:List J:=[oM Ez k4,⟨Le,.bin .add Ez (I 1),none⟩,oM k4 Le]
def lT:U:=(.seq (.seq lQ (.cond BD .skip (.exit 0))) (.seq (.block 1 Bg) Bh))
def qR:eG:=⟨(.seq Bf (.seq aj (.seq (.seq lO (.cond qW rT .skip)) (.seq lP (.block 0 (.loop lT)))))),[]⟩
def Ga:List J:=[oB k1 k0,oJ k2 (I 0)]
def Gb:List J:=[oJ k3 (I 0)]
def Gc:List J:=[oJ k4 (I 0)]
def oh:List J:=[oM k5 k4,oF k6 5 k1,oL k7 1 k6,oZ k8 k7,⟨k9,.bin .lss k5 k8,none⟩]
def Gd:List J:=[oM cr k3,oF cu 5 k1,oL bZ 1 cu,oM cv k4,oI cK 7 bZ cv,oA cO 7 cK,oC dv iT [cO],⟨dx,.mx true cr dv,none⟩,oM k3 dx]
def vr:List J:=[oM bM k4,⟨bW,.bin .add bM (I 1),none⟩,oM k4 bW]
def Ge:U:=(.seq (.seq oh (.cond k9 .skip (.exit 0))) (.seq (.block 1 Gd) vr))
def vt:List J:=[oM db k3,⟨dB,.bin .add db (I 1),none⟩,oM k2 dB]
def vf:eG:=⟨(.seq Ga (.seq Gb (.seq (.seq Gc (.block 0 (.loop Ge))) (.seq vt .ret)))),[.tmp k2]⟩
def AQ:List J:=[oB k3 k1]
def ry:List J:=[oF bM 5 k3,oL bW 1 bM,oZ cr bW,oM k4 cr]
def rv:List J:=[oF cu 0 k3,oL bZ 1 cu]
def ig:List J:=[oE dv bZ 0,oM cO dv]
def ij:List J:=[oM dx k0,oA db 7 k3,oC dB cL [db,(.v (.bool false)),(.v (.bool true)),(.v (.bool false))],oM cV dB,oT eH k4 cV,⟨fh,.bin .eql eH (I 0),(cV,true)⟩,oP ic cV fh,oC fJ au [dx,ic]]
def eO:List J:=[oM hU k0,oF jm 2 k3,oL gu 1 jm,oC jK cE [hU,gu,(I (-1099511627776))]]
def ik:List J:=[oE mu bZ 1,oM mj mu]
def il:List J:=[oM mv k0,oA jB 7 k3,oC mS cL [jB,(.v (.bool false)),(.v (.bool true)),(.v (.bool false))],oM lY mS,oT iX k4 lY,⟨oK,.bin .eql iX (I 0),(lY,true)⟩,oP qZ lY oK,oM jv qZ,⟨q9,.fieldA 2 k3,(jv,true)⟩,⟨qV,.load false 1 q9,(jv,true)⟩,⟨qW,.bin .eql qV (I 0),(jv,true)⟩,oT qX qW jv,⟨sg,.fieldA 2 k3,(qX,false)⟩,⟨rC,.load false 1 sg,(qX,false)⟩,⟨vH,.bin .eql rC (I 1),(qX,false)⟩,⟨vk,.pick qX (.v (.bool true)) vH,(jv,true)⟩,oP vF jv vk,oC uD au [mv,vF]]
def im:List J:=[oE BD bZ 2,oM ue BD]
def iq:List J:=[oM Ez k0,oA Le 7 k3,oC Lf cL [Le,(.v (.bool true)),(.v (.bool false)),(.v (.bool false))],oM Iz Lf,oT NT k4 Iz,⟨H7,.bin .eql NT (I 0),(Iz,true)⟩,oP Gt Iz H7,oC Lg au [Ez,Gt]]
def dY:List J:=[oM Mv k0,oF NU 1 k3,oL NV 1 NU,oC Om aJ [Mv,NV,(I 0)]]
def fM:List J:=[oE Pb bZ 3,oM Rr Pb]
def fN:List J:=[oM Mw k0,oA H8 7 k3,oC Mx cL [H8,(.v (.bool true)),(.v (.bool false)),(.v (.bool false))],oC Lh au [Mw,Mx]]
def ea:List J:=[oM Pc k0,oF Li 1 k3,oL Pd 1 Li,oC NW aJ [Pc,Pd,(I 0)]]
def ed:List J:=[oM Se k0,oM Sf k4,oC Uz aP [Se,Sf]]
def fO:List J:=[oE UA bZ 4,oM VL UA]
def fQ:List J:=[oM Vq k0,oA Ly 7 k3,oC Vr cL [Ly,(.v (.bool true)),(.v (.bool false)),(.v (.bool false))],oC Ww au [Vq,Vr]]
def ef:List J:=[oM VM k0,oF VN 1 k3,oL Sh 1 VN,oC XY aJ [VM,Sh,(I 1)]]
def eh:List J:=[oM XZ k0,oM Xi k4,oC X7 aP [XZ,Xi]]
def fR:List J:=[oE UB bZ 5,oM X8 UB]
def fS:List J:=[oM VO k0,oA YO 7 k3,oC Z9 cL [YO,(.v (.bool false)),(.v (.bool false)),(.v (.bool false))],oC k96 au [VO,Z9]]
def ei:List J:=[oM YP k0,oM VP k0,oN YQ VP,oF yK 0 YQ,oL AZ 1 yK,oM qY AZ,oQ BR k4 qY,⟨Dy,.bin .gtr BR (I 256),(qY,false)⟩,⟨BS,.pick qY (.v (.bool true)) Dy,none⟩,oN DB YP,oF DC 0 DB,oS 1 DC BS]
def fT:List J:=[oE BT bZ 6,oM wa BT]
def fU:List J:=[oM EW k0,oA DD 7 k3,oC BU cL [DD,(.v (.bool false)),(.v (.bool false)),(.v (.bool false))],oM AY BU,oT DG k4 AY,⟨Gu,.bin .eql DG (I 3),(AY,true)⟩,oP Gv AY Gu,oC NX au [EW,Gv]]
def fV:List J:=[oE Je bZ 7,oM EX Je]
def fW:List J:=[oM Lz k0,oA Jf 7 k3,oC DH cL [Jf,(.v (.bool true)),(.v (.bool false)),(.v (.bool false))],oM EY DH,oT Jg k4 EY,⟨RC,.bin .eql Jg (I 2),(EY,true)⟩,oP RD EY RC,oC VQ au [Lz,RD]]
def ej:List J:=[oM TA k0,oF RE 1 k3,oL RF 1 RE,oC VR aJ [TA,RF,(I 0)]]
def fX:List J:=[oE RG bZ 8,oM Gy RG]
def fY:List J:=[oM TB k0,oA RH 7 k3,oC TC cL [RH,(.v (.bool false)),(.v (.bool false)),(.v (.bool true))],oM Jh TC,oT VS k4 Jh,⟨VT,.bin .geq VS (I 2),(Jh,true)⟩,oP TH Jh VT,oM LB TH,⟨VU,.fieldA 3 k3,(LB,true)⟩,⟨Xj,.load false 1 VU,(LB,true)⟩,⟨VV,.lenL Xj,(LB,true)⟩,oT YS k4 LB,⟨YT,.bin .sub YS (I 1),(LB,true)⟩,⟨YU,.bin .eql VV YT,(LB,true)⟩,oP aaq LB YU,oM PI aaq,⟨aca,.fieldA 4 k3,(PI,true)⟩,⟨adI,.load false 1 aca,(PI,true)⟩,⟨adJ,.lenL adI,(PI,true)⟩,oT acb k4 PI,⟨acd,.bin .sub acb (I 1),(PI,true)⟩,⟨ace,.bin .eql adJ acd,(PI,true)⟩,oP acf PI ace,oC adK au [TB,acf]]
def eo:List J:=[oM YV k0,oM adL k4,⟨acg,.bin .sub adL (I 1),none⟩,oC adM aP [YV,acg]]
def dj:List J:=[oJ k5 (I 0)]
def kL:List J:=[oM YW k5,oF ach 3 k3,oL aci 1 ach,oZ acj aci,⟨adN,.bin .lss YW acj,none⟩]
def yl:List J:=[oM ack k0,oF adP 3 k3,oL acm 1 adP,oM acn k5,oI aii 1 acm acn,oL afh 1 aii,oC aij aJ [ack,afh,(I 1)]]
def ym:List J:=[oM adO k5,⟨YX,.bin .add adO (I 1),none⟩,oM k5 YX]
def dz:U:=(.seq (.seq kL (.cond adN .skip (.exit 1))) (.seq (.block 2 yl) ym))
def cD:List J:=[oJ k6 (I 0)]
def kM:List J:=[oM aco k6,oF aik 4 k3,oL afi 1 aik,oZ afj afi,⟨ail,.bin .lss aco afj,none⟩]
def qx:List J:=[oM afl k0,oF ain 4 k3,oL afm 1 ain,oM afn k6,oI aio 1 afm afn,oL afD 1 aio,oZ afE afD,oC aip aP [afl,afE]]
def qy:List J:=[oJ k7 (I 0)]
def kN:List J:=[oM afo k7,oF afp 4 k3,oL afq 1 afp,oM afr k6,oI afs 1 afq afr,oL aft 1 afs,oZ afu aft,⟨aiq,.bin .lss afo afu,none⟩]
def yn:List J:=[oM afw k0,oF ais 4 k3,oL afx 1 ais,oM afy k6,oI afz 1 afx afy,oL ait 1 afz,oM afA k7,oI afB 1 ait afA,oL afC 1 afB,oC ajR aJ [afw,afC,(I 0)]]
def yo:List J:=[oM air k7,⟨afv,.bin .add air (I 1),none⟩,oM k7 afv]
def rU:U:=(.seq (.seq kN (.cond aiq .skip (.exit 5))) (.seq (.block 6 yn) yo))
def gT:List J:=[oM afk k6,⟨aim,.bin .add afk (I 1),none⟩,oM k6 aim]
def cP:U:=(.seq (.seq kM (.cond ail .skip (.exit 3))) (.seq (.block 4 (.seq qx (.seq qy (.block 5 (.loop rU))))) gT))
def fZ:List J:=[oE ajS bZ 9,oM aiu ajS]
def gh:List J:=[oF ajT 1 k3,oL amJ 1 ajT,oC afF DM [amJ],oM k8 afF]
def gi:List J:=[oM ajU k0,oA ajV 7 k3,oC ajW cL [ajV,(.v (.bool true)),(.v (.bool false)),(.v (.bool false))],oM afG ajW,oT amK k8 afG,⟨ajX,.bin .gtr amK (I 0),(afG,true)⟩,oP ajY afG ajX,oM aar ajY,oT amL k8 aar,⟨ajZ,.bin .eql amL (I 3),(aar,true)⟩,oT aj0 k4 aar,⟨aj1,.bin .eql aj0 (I 1),(aar,true)⟩,⟨amM,.eq false .bool ajZ aj1,(aar,true)⟩,oP aj2 aar amM,oM aas aj2,oT aj3 k8 aas,⟨aj4,.bin .neq aj3 (I 3),(aas,true)⟩,oT amN k4 aas,⟨aj5,.bin .eql amN (I 2),(aas,true)⟩,⟨aj6,.eq false .bool aj4 aj5,(aas,true)⟩,oP aj7 aas aj6,oC amO au [ajU,aj7]]
def gj:List J:=[oM cv k0,oC cK au [cv,(.v (.bool false))]]
def gk:List J:=[oJ k9 (I 0)]
def qz:List J:=[oM aj8 k9,oM akg k4,⟨akh,.bin .lss aj8 akg,none⟩]
def yp:List J:=[oM akb k0,oF akc 5 k3,oL akd 1 akc,oM ake k9,oI akf 7 akd ake,oA amP 7 akf,oC amQ dV [akb,amP]]
def yq:List J:=[oM aj9 k9,⟨aka,.bin .add aj9 (I 1),none⟩,oM k9 aka]
def ir:U:=(.seq (.seq qz (.cond akh .skip (.exit 7))) (.seq (.block 8 yp) yq))
def qH:eG:=⟨(.seq AQ (.seq ry (.seq (.seq rv (.block 0 (.seq ig (.cond cO (.seq ij eO) (.seq ik (.cond mj il (.seq im (.cond ue (.seq iq dY) (.seq fM (.cond Rr (.seq fN (.seq ea ed)) (.seq fO (.cond VL (.seq fQ (.seq ef eh)) (.seq fR (.cond X8 (.seq fS ei) (.seq fT (.cond wa fU (.seq fV (.cond EX (.seq fW ej) (.seq fX (.cond Gy (.seq fY (.seq eo (.seq (.seq dj (.block 1 (.loop dz))) (.seq cD (.block 3 (.loop cP)))))) (.seq fZ (.cond aiu (.seq gh gi) gj)))))))))))))))))))))) (.seq gk (.block 7 (.loop ir)))))),[]⟩
def HI:List J:=[oB k1 k0,oJ k2 (I 0)]
def HJ:List J:=[oJ k3 (I 0)]
def HK:List J:=[oJ k4 (I 0)]
def qS:List J:=[oM k6 k4,oF k7 4 k1,oL k8 1 k7,oZ k9 k8,⟨bM,.bin .lss k6 k9,none⟩]
def HL:List J:=[oM cu k3,oF bZ 4 k1,oL cv 1 bZ,oM cK k4,oI cO 6 cv cK,oA dv 6 cO,oC dx mZ [dv],⟨db,.mx true cu dx,none⟩,oM k3 db]
def xl:List J:=[oM bW k4,⟨cr,.bin .add bW (I 1),none⟩,oM k4 cr]
def HM:U:=(.seq (.seq qS (.cond bM .skip (.exit 0))) (.seq (.block 1 HL) xl))
def xm:List J:=[oJ k5 (I 0)]
def qT:List J:=[oM dB k5,oF cV 3 k1,oL eH 1 cV,oZ fh eH,⟨ic,.bin .lss dB fh,none⟩]
def HN:List J:=[oM jm k3,oF gu 3 k1,oL jK 1 gu,oM mj k5,oI mu 7 jK mj,oA mv 7 mu,oC jB iT [mv],⟨mS,.mx true jm jB,none⟩,oM k3 mS]
def xo:List J:=[oM fJ k5,⟨hU,.bin .add fJ (I 1),none⟩,oM k5 hU]
def xq:U:=(.seq (.seq qT (.cond ic .skip (.exit 2))) (.seq (.block 3 HN) xo))
def oi:List J:=[oM lY k3,⟨iX,.bin .add lY (I 1),none⟩,oM k2 iX]
def xr:eG:=⟨(.seq HI (.seq HJ (.seq (.seq HK (.block 0 (.loop HM))) (.seq (.seq xm (.block 2 (.loop xq))) (.seq oi .ret))))),[.tmp k2]⟩
def Dc:List J:=[oB k3 k1]
def Dd:List J:=[oF bM 4 k3,oL bW 1 bM,oZ cr bW,oM k4 cr]
def De:List J:=[oF cu 3 k3,oL bZ 1 cu,oZ cv bZ,oM k5 cv]
def Df:List J:=[oF cK 2 k3,oL cO 1 cK,oZ dv cO,oM k6 dv]
def tU:List J:=[oF dx 0 k3,oL db 1 dx]
def jb:List J:=[oE fh db 0,oM eH fh]
def dh:List J:=[oM ic k0,oF fJ 1 k3,oL hU 1 fJ,⟨jm,.bin .eql hU (.v (.str 0 0)),none⟩,oM gu jm,oT jK k6 gu,⟨mj,.bin .eql jK (I 0),(gu,true)⟩,oP mu gu mj,oM mv mu,oT jB k5 mv,⟨mS,.bin .eql jB (I 1),(mv,true)⟩,oP lY mv mS,oM iX lY,oT oK k4 iX,⟨qZ,.bin .eql oK (I 0),(iX,true)⟩,oP jv iX qZ,oC q9 au [ic,jv]]
def jd:List J:=[oE qW db 1,oM qV qW]
def di:List J:=[oM qX k0,oF sg 1 k3,oL rC 1 sg,⟨vH,.bin .eql rC (.v (.str 0 0)),none⟩,oM vk vH,oT vF k6 vk,⟨uD,.bin .eql vF (I 0),(vk,true)⟩,oP ue vk uD,oM BD ue,oT Ez k5 BD,⟨Le,.bin .eql Ez (I 2),(BD,true)⟩,oP Lf BD Le,oM Iz Lf,oT NT k4 Iz,⟨H7,.bin .eql NT (I 0),(Iz,true)⟩,oP Gt Iz H7,oC Lg au [qX,Gt]]
def je:List J:=[oE NU db 2,oM Mv NU]
def cQ:List J:=[oM NV k0,oF Om 1 k3,oL Rr 1 Om,⟨Pb,.bin .eql Rr (.v (.str 0 0)),none⟩,oM Mw Pb,oT H8 k6 Mw,oT Mx k4 Mw,⟨Lh,.bin .eql H8 Mx,(Mw,true)⟩,oP Pc Mw Lh,oM Li Pc,oT Pd k5 Li,⟨NW,.bin .eql Pd (I 0),(Li,true)⟩,oP Se Li NW,oM Sf Se,oT Uz k4 Sf,⟨VL,.bin .geq Uz (I 1),(Sf,true)⟩,oP UA Sf VL,oC Vq au [NV,UA]]
def eR:List J:=[oM Ly k0,oM Vr k4,oC Ww aP [Ly,Vr]]
def eS:List J:=[oM VM k0,oM VN k6,oC Sh aP [VM,VN]]
def dD:List J:=[oJ k7 (I 0)]
def rV:List J:=[oM XY k7,oM XZ k6,⟨Xi,.bin .lss XY XZ,none⟩]
def Bi:List J:=[oM UB k0,oF VO 2 k3,oL YO 1 VO,oM Z9 k7,oI k96 1 YO Z9,oL YP 1 k96,oC VP cE [UB,YP,(I 0)]]
def Bj:List J:=[oM X7 k7,⟨X8,.bin .add X7 (I 1),none⟩,oM k7 X8]
def dW:U:=(.seq (.seq rV (.cond Xi .skip (.exit 1))) (.seq (.block 2 Bi) Bj))
def iE:List J:=[oE yK db 3,oM YQ yK]
def cT:List J:=[oM AZ k0,oF qY 1 k3,oL BR 1 qY,⟨Dy,.bin .eql BR (.v (.str 0 0)),none⟩,oM BS Dy,oT DB k6 BS,⟨DC,.bin .eql DB (I 0),(BS,true)⟩,oP wa BS DC,oM BT wa,oT EW k5 BT,⟨DD,.bin .eql EW (I 2),(BT,true)⟩,oP BU BT DD,oM AY BU,oT DG k4 AY,⟨Gu,.bin .eql DG (I 1),(AY,true)⟩,oP Gv AY Gu,oC NX au [AZ,Gv]]
def iF:List J:=[oE Je db 4,oM EX Je]
def eT:List J:=[oM Lz k0,oM Jf k6,oE DH Jf 0,oM EY DH,oT Jg k5 EY,⟨RC,.bin .eql Jg (I 0),(EY,true)⟩,oP RD EY RC,oC VQ au [Lz,RD]]
def eU:List J:=[oM TA k0,oF RE 1 k3,oL RF 1 RE,oC VR aJ [TA,RF,(I 1)]]
def eW:List J:=[oM Gy k0,oM RG k4,oC TB aP [Gy,RG]]
def iG:List J:=[oE TC db 5,oM RH TC]
def dE:List J:=[oM Jh k0,oM VS k6,oE VT VS 0,oM TH VT,oT LB k5 TH,⟨VU,.bin .eql LB (I 0),(TH,true)⟩,oP Xj TH VU,oM VV Xj,oT YS k4 VV,⟨YT,.bin .eql YS (I 2),(VV,true)⟩,oP YU VV YT,oC aaq au [Jh,YU]]
def eX:List J:=[oM PI k0,oF aca 1 k3,oL adI 1 aca,oC adJ aJ [PI,adI,(I 0)]]
def iH:List J:=[oE acd db 6,oM acb acd]
def dG:List J:=[oM ace k0,oM acf k6,oE adK acf 0,oM YV adK,oT adL k5 YV,⟨acg,.bin .eql adL (I 1),(YV,true)⟩,oP adM YV acg,oM YW adM,oT ach k4 YW,⟨aci,.bin .eql ach (I 1),(YW,true)⟩,oP acj YW aci,oC adN au [ace,acj]]
def eY:List J:=[oM adO k0,oF YX 1 k3,oL ack 1 YX,oC adP aJ [adO,ack,(I 0)]]
def iI:List J:=[oE acn db 7,oM acm acn]
def eZ:List J:=[oM aii k0,oM afh k6,oE aij afh 0,oM aco aij,oT aik k4 aco,⟨afi,.bin .eql aik (I 0),(aco,true)⟩,oP afj aco afi,oC ail au [aii,afj]]
def fa:List J:=[oM afk k0,oF aim 1 k3,oL afl 1 aim,oC ain aJ [afk,afl,(I 0)]]
def fb:List J:=[oM afm k0,oM afn k5,oC aio aP [afm,afn]]
def iJ:List J:=[oM dB k0,oC cV au [dB,(.v (.bool false))]]
def iK:List J:=[oJ k8 (I 0)]
def rW:List J:=[oM afD k8,oM afE k5,⟨aip,.bin .lss afD afE,none⟩]
def Bk:List J:=[oM afq k0,oF afr 3 k3,oL afs 1 afr,oM aft k8,oI afu 7 afs aft,oA aiq 7 afu,oC air dV [afq,aiq]]
def Bl:List J:=[oM afo k8,⟨afp,.bin .add afo (I 1),none⟩,oM k8 afp]
def jf:U:=(.seq (.seq rW (.cond aip .skip (.exit 3))) (.seq (.block 4 Bk) Bl))
def fc:List J:=[oJ k9 (I 0)]
def rX:List J:=[oM afv k9,oM afw k4,⟨ais,.bin .lss afv afw,none⟩]
def Bm:List J:=[oM afz k0,oF ait 4 k3,oL afA 1 ait,oM afB k9,oI afC 6 afA afB,oA ajR 6 afC,oC aiu gX [afz,ajR]]
def Bn:List J:=[oM afx k9,⟨afy,.bin .add afx (I 1),none⟩,oM k9 afy]
def fC:U:=(.seq (.seq rX (.cond ais .skip (.exit 5))) (.seq (.block 6 Bm) Bn))
def tq:eG:=⟨(.seq Dc (.seq Dd (.seq De (.seq Df (.seq (.seq tU (.block 0 (.seq jb (.cond eH dh (.seq jd (.cond qV di (.seq je (.cond Mv (.seq cQ (.seq eR (.seq eS (.seq dD (.block 1 (.loop dW)))))) (.seq iE (.cond YQ cT (.seq iF (.cond EX (.seq eT (.seq eU eW)) (.seq iG (.cond RH (.seq dE eX) (.seq iH (.cond acb (.seq dG eY) (.seq iI (.cond acm (.seq eZ (.seq fa fb)) iJ)))))))))))))))))) (.seq (.seq iK (.block 3 (.loop jf))) (.seq fc (.block 5 (.loop fC))))))))),[]⟩
def El:List J:=[oJ k2 .nils]
def Em:List J:=[oM k3 k0]
def eJ:List J:=[oE k5 k3 1,oM k4 k5]
def Eo:List J:=[⟨k6,.bslice 1 1 [(.str 0 0)] [(0,1,(.v (.str 2 29295)))],none⟩,oM k2 k6]
def gU:List J:=[oE k8 k3 2,oM k7 k8]
def Ep:List J:=[⟨k9,.bslice 1 1 [(.str 0 0)] [(0,1,(.v (.str 3 6581857)))],none⟩,oM k2 k9]
def jD:List J:=[oE bW k3 4,oM bM bW]
def Er:List J:=[⟨cr,.bslice 1 4 [(.str 0 0)] [(0,1,(.v (.str 2 15677))),(1,1,(.v (.str 2 15649))),(2,1,(.v (.str 1 60))),(3,1,(.v (.str 2 15676)))],none⟩,oM k2 cr]
def nH:List J:=[oE bZ k3 5,oM cu bZ]
def Es:List J:=[⟨cv,.bslice 1 2 [(.str 0 0)] [(0,1,(.v (.str 1 43))),(1,1,(.v (.str 1 45)))],none⟩,oM k2 cv]
def tI:List J:=[oE cO k3 6,oM cK cO]
def Ct:List J:=[⟨dv,.bslice 1 1 [(.str 0 0)] [(0,1,(.v (.str 1 42)))],none⟩,oM k2 dv]
def Cu:List J:=[oJ k2 .nils]
def uB:eG:=⟨(.seq El (.seq (.seq Em (.block 0 (.seq eJ (.cond k4 (.seq Eo .ret) (.seq gU (.cond k7 (.seq Ep .ret) (.seq jD (.cond bM (.seq Er .ret) (.seq nH (.cond cu (.seq Es .ret) (.seq tI (.cond cK (.seq Ct .ret) .skip)))))))))))) (.seq Cu .ret))),[.tmp k2]⟩
def OV:List J:=[oB k4 k0,oJ k8 (.bool false)]
def jJ:List J:=[oM k9 k1,oM bM k9,⟨bW,.fieldA 1 k4,(bM,false)⟩,⟨cr,.load false 1 bW,(bM,false)⟩,⟨cu,.bin .eql cr (.v (.str 0 0)),(bM,false)⟩,⟨bZ,.pick bM (.v (.bool true)) cu,none⟩,oM cv bZ,oT cK k2 cv,oT cO cK cv,⟨dv,.fieldA 2 k4,(cO,false)⟩,⟨dx,.load false 1 dv,(cO,false)⟩,⟨db,.bin .eql dx (I 0),(cO,false)⟩,⟨dB,.pick cO (.v (.bool true)) db,(cv,true)⟩,oP cV cv dB,oM eH cV,oT fh k3 eH,oT ic fh eH,⟨fJ,.fieldA 3 k4,(ic,false)⟩,⟨hU,.load false 1 fJ,(ic,false)⟩,⟨jm,.lenL hU,(ic,false)⟩,⟨gu,.bin .eql jm (I 0),(ic,false)⟩,oQ jK gu ic,⟨mj,.fieldA 4 k4,(jK,true)⟩,⟨mu,.load false 1 mj,(jK,true)⟩,⟨mv,.lenL mu,(jK,true)⟩,⟨jB,.bin .eql mv (I 0),(jK,true)⟩,⟨mS,.pick jK jB (.v (.bool false)),(ic,false)⟩,⟨lY,.pick ic (.v (.bool true)) mS,(eH,true)⟩,oP iX eH lY,oM k8 iX]
def GP:eG:=⟨(.seq OV (.seq jJ .ret)),[.tmp k8]⟩
def SE:List J:=[oJ k2 (I 0)]
def SG:List J:=[oJ k3 (I 1)]
def Iq:List J:=[oM k4 k3,⟨k5,.bin .lss k4 (I 7),none⟩]
def SH:List J:=[oM k8 k3,oC k9 lj [k8],oM bM k0,oC bW vl [k9,bM]]
def Ir:List J:=[oM cr k3,oM k2 cr]
def Is:List J:=[oM k6 k3,⟨k7,.bin .add k6 (I 1),none⟩,oM k3 k7]
def SJ:U:=(.seq (.seq Iq (.cond k5 .skip (.exit 0))) (.seq (.block 1 (.seq SH (.cond bW (.seq Ir .ret) .skip))) Is))
def It:List J:=[oM cu k0,⟨bZ,.bin .eql cu (.v (.str 3 7630702)),none⟩]
def SK:List J:=[oJ k2 (I 3)]
def SM:List J:=[oJ k2 (I 0)]
def LP:eG:=⟨(.seq SE (.seq (.seq SG (.block 0 (.loop SJ))) (.seq (.seq It (.cond bZ (.seq SK .ret) .skip)) (.seq SM .ret)))),[.tmp k2]⟩
def g0:List AV:=[(.str 3 6581857),(.str 4 1819242338),(.str 5 461229090915),(.str 5 469919427683),(.str 5 495857003619),(.str 7 28268862397837155),(.str 4 1702063205),(.str 5 435728179558),(.str 3 7239014),(.str 3 7234919),(.str 2 26217),(.str 2 28265),(.str 3 7630441),(.str 3 7628140),(.str 4 1953720684),(.str 4 1701536109),(.str 5 448345170285),(.str 5 465557548909),(.str 4 1954047342),(.str 3 7630702),(.str 2 26223),(.str 3 6647407),(.str 2 28783),(.str 2 29295),(.str 4 1801677168),(.str 4 1953722224),(.str 3 6648432),(.str 4 1886351984),(.str 7 32199706694346098),(.str 6 128009175786866),(.str 6 121437875889522),(.str 4 1885697139),(.str 6 120282512849267),(.str 4 1852139636),(.str 4 1702195828),(.str 4 1701869940),(.str 5 435710945399)]
def g1:List AV:=[(.str 2 15917),(.str 2 11580),(.str 2 15676),(.str 2 15677),(.str 2 15649),(.str 2 11822),(.str 1 40),(.str 1 41),(.str 1 91),(.str 1 93),(.str 1 123),(.str 1 125),(.str 1 44),(.str 1 59),(.str 1 58),(.str 1 61),(.str 1 60),(.str 1 43),(.str 1 45),(.str 1 42),(.str 1 47),(.str 1 124)]
def heap0:T ab:=(.node (some (.cells g0 .ro)) (.node (some (.cells g1 .ro)) .nil .nil) .nil)
end Tb
namespace Tb
open Go.Sx
def tG:Nat:=3
def AR:List J:=[oJ k4 (.bool false)]
def rz:List J:=[oM bM k0,oC bW nM [bM],oM cr k1,oC cu nM [cr],oM bZ k0,oC cv nM [bZ],⟨cK,.append 3 cu cv,none⟩,oM cO k0,oC dv vW [cO],oC dx GR [dv],⟨db,.bslice 1 3 [.nils] [(0,1,bW),(1,1,cK),(2,1,dx)],none⟩,oM k5 db]
def AS:List J:=[oJ k6 (I 0)]
def rA:List J:=[oM dB k6,⟨cV,.bin .lss dB (I 3),none⟩]
def AT:List J:=[oM ic k5,oM fJ k6,oI hU 1 ic fJ,oL jm 1 hU,oC gu rB [jm],oM k7 gu]
def AU:List J:=[oM jK k5,oM mj k6,oI mu 1 jK mj,oL mv 1 mu,oC jB ud [mv],oM k8 jB]
def AW:List J:=[oM mS k7,oZ lY mS,oM iX k8,oZ oK iX,⟨qZ,.bin .neq lY oK,none⟩]
def OX:List J:=[oJ k4 (.bool false)]
def AX:List J:=[oJ k9 (I 0)]
def lk:List J:=[oM jv k9,oM q9 k7,oZ qV q9,⟨qW,.bin .lss jv qV,none⟩]
def xI:List bx:=[.L 0 (oM rC k7),.L 1 (oM vH k9),.L 2 (oI vk 6 rC vH),.L 3 (oA vF 6 vk),.L 4 (oM uD k8),.L 5 (oM ue k9),.L 6 (oI BD 6 uD ue),.L 7 (oA Ez 6 BD),.L 8 ⟨Le,.eq true (.parts [(0,.str),(1,.int),(2,.int),(3,.str),(4,.int),(5,.int)]) vF Ez,none⟩]
def NS:List J:=[oJ k4 (.bool false)]
def xJ:List J:=[oM qX k9,⟨sg,.bin .add qX (I 1),none⟩,oM k9 sg]
def rD:U:=(.seq (.seq lk (.cond qW .skip (.exit 2))) (.seq (.block 3 (.seq (.staged xI ⟨[rC,vH,vk,vF,uD,ue,BD,Ez,Le],[]⟩) (.cond Le (.seq NS .ret) .skip))) xJ))
def xK:List J:=[oM eH k6,⟨fh,.bin .add eH (I 1),none⟩,oM k6 fh]
def rE:U:=(.seq (.seq rA (.cond cV .skip (.exit 0))) (.seq (.block 1 (.seq AT (.seq AU (.seq (.seq AW (.cond qZ (.seq OX .ret) .skip)) (.seq AX (.block 2 (.loop rD))))))) xK))
def xL:List J:=[oC Lf Ac [],oM k4 Lf]
def qI:eG:=⟨(.seq AR (.seq rz (.seq (.seq AS (.block 0 (.loop rE))) (.seq xL .ret)))),[.tmp k4]⟩
def R0:List J:=[oJ k2 .nils]
def R4:List J:=[oJ k3 .nils]
def R5:List J:=[oJ k4 (I 0)]
def uc:List J:=[oM k6 k4,oM k7 k0,oZ k8 k7,⟨k9,.bin .lss k6 k8,none⟩,oM bM k9,oT bW k4 bM,⟨cr,.bin .lss bW (I 14),(bM,true)⟩,oP cu bM cr]
def R6:List J:=[oM cK k0,oM cO k4,oI dv 1 cK cO,oL dx 1 dv,oC db jI [dx,(I 120)],oM k5 db]
def H0:List J:=[oM dB k3,⟨cV,.bslice 1 3 [(.str 0 0)] [(0,1,(.v (.str 0 0))),(1,1,(.v (.str 1 102))),(2,1,(.v (.str 1 103)))],none⟩,oM eH k5,⟨fh,.bin .rem eH (I 3),none⟩,oI ic 1 cV fh,oL fJ 1 ic,oM hU k5,⟨jm,.bin .quo hU (I 3),none⟩,⟨gu,.bin .rem jm (I 5),none⟩,⟨jK,.bin .sub gu (I 1),none⟩,oM mj k5,⟨mu,.bin .quo mj (I 15),none⟩,⟨mv,.bin .rem mu (I 3),none⟩,⟨jB,.build [(.str 0 0),(I 0),(I 0)] [(0,1,fJ),(1,1,jK),(2,1,mv)],none⟩,⟨mS,.bslice 3 1 [(.str 0 0),(I 0),(I 0)] [(0,3,jB)],none⟩,⟨lY,.append 3 dB mS,none⟩,oM k3 lY]
def R7:List J:=[oM bZ k4,⟨cv,.bin .add bZ (I 1),none⟩,oM k4 cv]
def H4:U:=(.seq (.seq uc (.cond cu .skip (.exit 0))) (.seq (.block 1 (.seq R6 H0)) R7))
def Ag:List J:=[oM iX k3,oM k2 iX]
def Et:eG:=⟨(.seq R0 (.seq R4 (.seq (.seq R5 (.block 0 (.loop H4))) (.seq Ag .ret)))),[.tmp k2]⟩
def Ut:List J:=[oB k1 k0,oJ k2 .nils]
def Uu:List J:=[oJ k3 .nils]
def Uv:List J:=[oJ k4 (I 0)]
def Du:List J:=[oM k5 k4,oF k6 0 k1,oL k7 1 k6,oZ k8 k7,⟨k9,.bin .lss k5 k8,none⟩]
def Uw:List J:=[oM cr k3,oF cu 0 k1,oL bZ 1 cu,oM cv k4,oI cK 45 bZ cv,oA cO 45 cK,oC dv Lw [cO],⟨dx,.append 3 cr dv,none⟩,oM k3 dx]
def Ux:List J:=[oM bM k4,⟨bW,.bin .add bM (I 1),none⟩,oM k4 bW]
def Uy:U:=(.seq (.seq Du (.cond k9 .skip (.exit 0))) (.seq (.block 1 Uw) Ux))
def Lx:List J:=[oM db k3,oM k2 db]
def Rq:eG:=⟨(.seq Ut (.seq Uu (.seq (.seq Uv (.block 0 (.loop Uy))) (.seq Lx .ret)))),[.tmp k2]⟩
def Mp:List J:=[oJ k2 .nils]
def Mq:List J:=[⟨k7,.mkmap,none⟩,oM k3 k7]
def Mr:List J:=[oJ k4 (I 1)]
def kS:List J:=[oM k8 k4,oM k9 k0,oZ bM k9,⟨bW,.bin .lss k8 bM,none⟩]
def BE:List bx:=[.L 0 (oM bZ k3),.L 1 (oM cv k0),.L 2 (oM cK k4),.L 3 ⟨cO,.bin .sub cK (I 1),none⟩,.L 4 (oI dv 3 cv cO),.L 5 (oA dx 3 dv),.L 6 (oM db k0),.L 7 (oM dB k4),.L 8 (oI cV 3 db dB),.L 9 (oA eH 3 cV),.L 10 ⟨fh,.build [(.str 0 0),(I 0),(I 0),(.str 0 0),(I 0),(I 0)] [(0,3,dx),(3,3,eH)],none⟩,.H 11 ⟨none,.mapupdP (.parts [(0,.str),(1,.int),(2,.int),(3,.str),(4,.int),(5,.int)]) bZ fh (.v (.bool true)),none⟩ [],.R []]
def BF:List J:=[oM cr k4,⟨cu,.bin .add cr (I 1),none⟩,oM k4 cu]
def Ms:U:=(.seq (.seq kS (.cond bW .skip (.exit 0))) (.seq (.block 1 (.staged BE ⟨[bZ,cv,cK,cO,dv,dx,db,dB,cV,eH,fh],[]⟩)) BF))
def BG:List J:=[oM ic k3,⟨fJ,.lenM ic,none⟩,⟨hU,.mkslice 6 [(.str 0 0),(I 0),(I 0),(.str 0 0),(I 0),(I 0)] (I 0) fJ,none⟩,oM k5 hU]
def uE:List J:=[oM jm k3,⟨gu,.rangeM jm,none⟩]
def BH:List J:=[⟨jK,.nextM gu,none⟩,oX mj jK 0]
def Mt:List J:=[⟨mu,.entryM gu,none⟩,oX mv mu 0,⟨k6,.new [(.str 0 0),(I 0),(I 0),(.str 0 0),(I 0),(I 0)],none⟩,oS 6 k6 mv]
def I8:List J:=[oM jB k5,oA mS 6 k6,⟨lY,.bslice 6 1 [(.str 0 0),(I 0),(I 0),(.str 0 0),(I 0),(I 0)] [(0,6,mS)],none⟩,⟨iX,.append 6 jB lY,none⟩,oM k5 iX]
def uF:U:=(.seq BH (.seq (.cond mj .skip (.exit 2)) (.block 3 (.seq Mt I8))))
def sB:List J:=[oM oK k5,⟨qZ,.callF cM [oK,(.v (.fn qJ [] []))],none⟩]
def sD:List J:=[oM jv k5,oM k2 jv]
def Dv:eG:=⟨(.seq Mp (.seq Mq (.seq (.seq Mr (.block 0 (.loop Ms))) (.seq BG (.seq (.seq uE (.block 2 (.loop uF))) (.seq sB (.seq sD .ret))))))),[.tmp k2]⟩
def OY:List J:=[oJ k2 .nils]
def OZ:List J:=[oJ k3 .nils]
def Pa:List J:=[oJ k4 (I 0)]
def mT:List J:=[oM k8 k4,⟨k9,.bin .add k8 (I 1),none⟩,oM bM k0,oZ bW bM,⟨cr,.bin .lss k9 bW,none⟩]
def EC:List bx:=[.L 0 (oM cv k0),.L 1 (oM cK k4),.L 2 (oI cO 3 cv cK),.L 3 (oA dv 3 cO),.L 4 (oM dx k0),.L 5 (oM db k4),.L 6 ⟨dB,.bin .add db (I 1),none⟩,.L 7 (oI cV 3 dx dB),.L 8 (oA eH 3 cV),.L 9 ⟨fh,.build [(.str 0 0),(I 0),(I 0),(.str 0 0),(I 0),(I 0)] [(0,3,dv),(3,3,eH)],none⟩,.A 10 ⟨k5,.new [(.str 0 0),(I 0),(I 0),(.str 0 0),(I 0),(I 0)],none⟩,.H 11 (oS 6 k5 fh) [10],.R []]
def rF:List J:=[oM ic k3,oZ fJ ic,oM k6 fJ]
def vX:List bx:=[.L 0 (oM hU k6),.L 1 ⟨jm,.bin .gtr hU (I 0),none⟩,.L 2 (oM gu jm),.L 3 ⟨jK,.indexA 2 3 k5 (I 0),(gu,true)⟩,.L 4 ⟨mj,.load true 3 jK,(gu,true)⟩,.L 5 (oT mu k3 gu),.L 6 (oT mv k6 gu),.L 7 ⟨jB,.bin .sub mv (I 1),(gu,true)⟩,.L 8 ⟨mS,.indexL 6 mu jB,(gu,true)⟩,.L 9 ⟨lY,.indexA 2 3 mS (I 0),(gu,true)⟩,.L 10 ⟨iX,.load true 3 lY,(gu,true)⟩,.H 11 ⟨oK,.callF ph [mj,iX],(gu,true)⟩ [],.R [],.L 12 ⟨qZ,.bin .lss oK (I 0),(gu,true)⟩,.L 13 (oT jv qZ gu),.L 14 ⟨q9,.indexA 2 3 k5 (I 0),(jv,false)⟩,.L 15 ⟨qV,.load true 3 q9,(jv,false)⟩,.L 16 (oQ qW k3 jv),.L 17 (oQ qX k6 jv),.L 18 ⟨sg,.bin .sub qX (I 1),(jv,false)⟩,.L 19 ⟨rC,.indexL 6 qW sg,(jv,false)⟩,.L 20 ⟨vH,.indexA 2 3 rC (I 0),(jv,false)⟩,.L 21 ⟨vk,.load true 3 vH,(jv,false)⟩,.L 22 ⟨vF,.eq false (.parts [(0,.str),(1,.int),(2,.int)]) qV vk,(jv,false)⟩,.L 23 (oQ uD vF jv),.L 24 ⟨ue,.indexA 2 3 k5 (I 1),(uD,true)⟩,.L 25 ⟨BD,.load true 3 ue,(uD,true)⟩,.L 26 (oT Ez k3 uD),.L 27 (oT Le k6 uD),.L 28 ⟨Lf,.bin .sub Le (I 1),(uD,true)⟩,.L 29 ⟨Iz,.indexL 6 Ez Lf,(uD,true)⟩,.L 30 ⟨NT,.indexA 2 3 Iz (I 1),(uD,true)⟩,.L 31 ⟨H7,.load true 3 NT,(uD,true)⟩,.H 32 ⟨Gt,.callF ph [BD,H7],(uD,true)⟩ [],.R [],.L 33 ⟨Lg,.bin .leq Gt (I 0),(uD,true)⟩,.L 34 ⟨Mv,.pick uD Lg (.v (.bool false)),(jv,false)⟩,.L 35 ⟨NU,.pick jv (.v (.bool true)) Mv,(gu,true)⟩,.L 36 (oP NV gu NU)]
def rG:List J:=[oM Om k6,⟨Rr,.bin .sub Om (I 1),none⟩,oM k6 Rr]
def EF:U:=(.seq (.seq (.staged vX ⟨[hU,jm,gu,jK,mj,mu,mv,jB,mS,lY,iX,oK,qZ,jv,q9,qV,qW,qX,sg,rC,vH,vk,vF,uD,ue,BD,Ez,Le,Lf,Iz,NT,H7,Gt,Lg,Mv,NU,NV],[]⟩) (.cond NV .skip (.exit 2))) (.block 3 rG))
def fp:List bx:=[.L 0 (oM Pb k6),.L 1 (oM Mw k3),.L 2 (oZ H8 Mw),.L 3 ⟨Mx,.bin .lss Pb H8,none⟩,.L 4 (oM Lh Mx),.L 5 (oT Pc k3 Lh),.L 6 (oT Li k6 Lh),.L 7 ⟨Pd,.indexL 6 Pc Li,(Lh,true)⟩,.L 8 ⟨NW,.load true 6 Pd,(Lh,true)⟩,.L 9 ⟨Se,.load true 6 k5,(Lh,true)⟩,.L 10 ⟨Sf,.eq false (.parts [(0,.str),(1,.int),(2,.int),(3,.str),(4,.int),(5,.int)]) NW Se,(Lh,true)⟩,.L 11 (oP Uz Lh Sf)]
def EH:List J:=[oJ k7 .nils]
def My:List J:=[oM VL k7,oM UA k3,oM Vq k6,⟨Ly,.sliceL 6 UA none Vq,none⟩,⟨Vr,.append 6 VL Ly,none⟩,oM k7 Vr]
def BI:List J:=[oM Ww k7,oA VM 6 k5,⟨VN,.bslice 6 1 [(.str 0 0),(I 0),(I 0),(.str 0 0),(I 0),(I 0)] [(0,6,VM)],none⟩,⟨Sh,.append 6 Ww VN,none⟩,oM k7 Sh]
def Mz:List J:=[oM XY k7,oM XZ k3,oM Xi k6,⟨X7,.sliceL 6 XZ Xi none,none⟩,⟨X8,.append 6 XY X7,none⟩,oM k3 X8]
def pj:List J:=[oM cu k4,⟨bZ,.bin .add cu (I 1),none⟩,oM k4 bZ]
def Pe:U:=(.seq (.seq mT (.cond cr .skip (.exit 0))) (.seq (.block 1 (.seq (.staged EC ⟨[cv,cK,cO,dv,dx,db,dB,cV,eH,fh,k5],[]⟩) (.seq rF (.seq (.block 2 (.loop EF)) (.seq (.seq (.staged fp ⟨[Pb,Mw,H8,Mx,Lh,Pc,Li,Pd,NW,Se,Sf,Uz],[]⟩) (.cond Uz (.exit 1) .skip)) (.seq EH (.seq My (.seq BI Mz)))))))) pj))
def BJ:List J:=[oM UB k3,oM k2 UB]
def GS:eG:=⟨(.seq OY (.seq OZ (.seq (.seq Pa (.block 0 (.loop Pe))) (.seq BJ .ret)))),[.tmp k2]⟩
def Wx:List J:=[oB k1 k0,oJ k2 .nils]
def Wy:List J:=[oJ k3 .nils]
def Wz:List J:=[oA k6 45 k1,oC k7 Aj [k6],oM k4 k7]
def WA:List J:=[oJ k5 (I 0)]
def GU:List J:=[oM k8 k5,oM k9 k4,oZ bM k9,⟨bW,.bin .lss k8 bM,none⟩]
def WB:List bx:=[.L 0 (oM bZ k3),.L 1 (oM cv k4),.L 2 (oM cK k5),.L 3 (oI cO 7 cv cK),.L 4 (oA dv 7 cO),.L 5 (oF dx 1 k1),.L 6 (oL db 1 dx),.H 7 (oC dB pK [dv,db]) [],.R [],.H 8 ⟨cV,.append 3 bZ dB,none⟩ [],.R [],.L 9 (oM k3 cV)]
def WC:List J:=[oM cr k5,⟨cu,.bin .add cr (I 1),none⟩,oM k5 cu]
def WD:U:=(.seq (.seq GU (.cond bW .skip (.exit 0))) (.seq (.block 1 (.staged WB ⟨[bZ,cv,cK,cO,dv,dx,db,dB,cV,k3],[]⟩)) WC))
def Pf:List J:=[oM eH k3,oM k2 eH]
def UC:eG:=⟨(.seq Wx (.seq Wy (.seq Wz (.seq (.seq WA (.block 0 (.loop WD))) (.seq Pf .ret))))),[.tmp k2]⟩
def EK:List J:=[oB k2 k0,oB k3 k1,oJ k4 (I 0)]
def EL:List bx:=[.L 0 ⟨k5,.indexA 2 3 k2 (I 0),none⟩,.L 1 (oA k6 3 k5),.L 2 ⟨k7,.indexA 2 3 k3 (I 0),none⟩,.L 3 (oA k8 3 k7),.L 5 ⟨bM,.indexA 2 3 k2 (I 1),none⟩,.L 6 (oA bW 3 bM),.L 7 ⟨cr,.indexA 2 3 k3 (I 1),none⟩,.L 8 (oA cu 3 cr),.H 4 (oC k9 mU [k6,k8]) [],.R [(6,oA bW 3 bM),(8,oA cu 3 cr)],.H 9 (oC bZ mU [bW,cu]) [],.R [],.A 10 ⟨cv,.bslice 1 2 [(I 0)] [(0,1,k9),(1,1,bZ)],none⟩,.H 11 (oC cK nN [cv]) [10],.R [],.L 12 (oM k4 cK)]
def pn:eG:=⟨(.seq EK (.seq (.staged EL ⟨[k5,k6,k7,k8,k9,bM,bW,cr,cu,bZ,cv,cK,k4],[]⟩) .ret)),[.tmp k4]⟩
def H9:List J:=[oJ k2 (I 0)]
def Ia:List J:=[oJ k3 (I 0)]
def Ib:List J:=[oM k6 k0,oZ k7 k6,oJ k8 (I 0)]
def cd:List J:=[⟨k9,.bin .lss k8 k7,none⟩]
def cz:List J:=[oI bM 1 k6 k8,oL bW 1 bM,oM k5 bW]
def dJ:List J:=[oM cr k5,oM cu k3,⟨bZ,.bin .neq cr cu,none⟩]
def pL:List J:=[oM cv k5,oM k2 cv]
def pM:List J:=[⟨cK,.bin .add k8 (I 1),none⟩,oM k8 cK]
def js:U:=(.seq cd (.seq (.cond k9 .skip (.exit 0)) (.seq (.block 1 (.seq cz (.seq dJ (.cond bZ (.seq pL .ret) .skip)))) pM)))
def Ic:List J:=[oM cO k3,oM k2 cO]
def EM:eG:=⟨(.seq H9 (.seq Ia (.seq (.seq Ib (.block 0 (.loop js))) (.seq Ic .ret)))),[.tmp k2]⟩
def GV:List J:=[oB k2 k0,oB k3 k1,oJ k4 (I 0)]
def GW:List J:=[oA k5 3 k2,oA k6 3 k3,⟨k7,.eq false (.parts [(0,.str),(1,.int),(2,.int)]) k5 k6,none⟩]
def GX:List J:=[oJ k4 (I 0)]
def GY:List bx:=[.L 0 (oF k8 0 k2),.L 1 (oL k9 1 k8),.L 2 (oF bM 0 k3),.L 3 (oL bW 1 bM),.L 5 (oF cu 1 k2),.L 6 (oL bZ 1 cu),.L 7 (oF cv 1 k3),.L 8 (oL cK 1 cv),.L 10 (oF dv 2 k2),.L 11 (oL dx 1 dv),.L 12 (oF db 2 k3),.L 13 (oL dB 1 db),.H 4 (oC cr ln [k9,bW]) [],.R [(6,oL bZ 1 cu),(8,oL cK 1 cv),(11,oL dx 1 dv),(13,oL dB 1 db)],.H 9 (oC cO lp [bZ,cK]) [],.R [(11,oL dx 1 dv),(13,oL dB 1 db)],.H 14 (oC cV lp [dx,dB]) [],.R [],.A 15 ⟨eH,.bslice 1 3 [(I 0)] [(0,1,cr),(1,1,cO),(2,1,cV)],none⟩,.H 16 (oC fh nN [eH]) [15],.R [],.L 17 (oM k4 fh)]
def vY:eG:=⟨(.seq GV (.seq (.seq GW (.cond k7 (.seq GX .ret) .skip)) (.seq (.staged GY ⟨[k8,k9,bM,bW,cr,cu,bZ,cv,cK,cO,dv,dx,db,dB,cV,eH,fh,k4],[]⟩) .ret))),[.tmp k4]⟩
def I9:List J:=[oB k2 k0,oB k3 k1,oJ k4 (I 0)]
def mV:List J:=[oF k5 0 k2,oL k6 1 k5,oF k7 0 k3,oL k8 1 k7,⟨k9,.bin .neq k6 k8,none⟩]
def Ja:List J:=[oF bM 0 k2,oL bW 1 bM,oF cr 0 k3,oL cu 1 cr,⟨bZ,.bin .lss bW cu,none⟩,oC cv sE [bZ],oM k4 cv]
def sF:List J:=[oF cK 1 k2,oL cO 1 cK,oF dv 1 k3,oL dx 1 dv,⟨db,.bin .neq cO dx,none⟩]
def Jb:List J:=[oF dB 1 k2,oL cV 1 dB,oF eH 1 k3,oL fh 1 eH,⟨ic,.bin .lss cV fh,none⟩,oC fJ sE [ic],oM k4 fJ]
def yJ:List J:=[oF hU 2 k2,oL jm 1 hU,oF gu 2 k3,oL jK 1 gu,⟨mj,.bin .neq jm jK,none⟩]
def Jc:List J:=[oF mu 2 k2,oL mv 1 mu,oF jB 2 k3,oL mS 1 jB,⟨lY,.bin .lss mv mS,none⟩,oC iX sE [lY],oM k4 iX]
def Jd:List J:=[oJ k4 (I 0)]
def Ak:eG:=⟨(.seq I9 (.seq (.seq mV (.cond k9 (.seq Ja .ret) .skip)) (.seq (.seq sF (.cond db (.seq Jb .ret) .skip)) (.seq (.seq yJ (.cond mj (.seq Jc .ret) .skip)) (.seq Jd .ret))))),[.tmp k4]⟩
def EN:List J:=[oB k1 k0,oJ k2 .nils]
def EO:List J:=[oJ k3 .nils]
def EP:List J:=[oF k9 0 k1,oL bM 1 k9]
def vZ:List J:=[oE cr bM 1,oM bW cr]
def ER:List J:=[oM cu k3,oF bZ 8 k1,oA cv 7 bZ,⟨cK,.bslice 7 1 [(I 0),(.str 0 0),(I 0),.nils,.nils,.nils,(I 0)] [(0,7,cv)],none⟩,⟨cO,.append 7 cu cK,none⟩,oM k3 cO]
def v7:List J:=[oE dx bM 3,oM dv dx]
def ES:List J:=[oJ k4 (I 0)]
def v8:List J:=[oM db k4,oF dB 23 k1,oL cV 1 dB,oZ eH cV,⟨fh,.bin .lss db eH,none⟩]
def Pg:List J:=[oM hU k3,oF jm 23 k1,oL gu 1 jm,oM jK k4,oI mj 8 gu jK,oF mu 1 mj,oA mv 7 mu,⟨jB,.bslice 7 1 [(I 0),(.str 0 0),(I 0),.nils,.nils,.nils,(I 0)] [(0,7,mv)],none⟩,⟨mS,.append 7 hU jB,none⟩,oM k3 mS]
def Ph:List J:=[oM ic k4,⟨fJ,.bin .add ic (I 1),none⟩,oM k4 fJ]
def ET:U:=(.seq (.seq v8 (.cond fh .skip (.exit 1))) (.seq (.block 2 Pg) Ph))
def BK:List J:=[oJ k5 (I 0)]
def uG:List J:=[oM lY k5,oF iX 24 k1,oL oK 1 iX,oZ qZ oK,⟨jv,.bin .lss lY qZ,none⟩]
def MA:List J:=[oM qW k3,oF qX 24 k1,oL sg 1 qX,oM rC k5,oI vH 8 sg rC,oF vk 1 vH,oA vF 7 vk,⟨uD,.bslice 7 1 [(I 0),(.str 0 0),(I 0),.nils,.nils,.nils,(I 0)] [(0,7,vF)],none⟩,⟨ue,.append 7 qW uD,none⟩,oM k3 ue]
def MB:List J:=[oM q9 k5,⟨qV,.bin .add q9 (I 1),none⟩,oM k5 qV]
def EU:U:=(.seq (.seq uG (.cond jv .skip (.exit 3))) (.seq (.block 4 MA) MB))
def uH:List J:=[oE Ez bM 4,oM BD Ez]
def BL:List J:=[oM Le k3,oF Lf 29 k1,oA Iz 7 Lf,⟨NT,.bslice 7 1 [(I 0),(.str 0 0),(I 0),.nils,.nils,.nils,(I 0)] [(0,7,Iz)],none⟩,⟨H7,.append 7 Le NT,none⟩,oM k3 H7]
def BM:List J:=[oJ k6 (I 0)]
def uI:List J:=[oM Gt k6,oF Lg 36 k1,oL Mv 1 Lg,oZ NU Mv,⟨NV,.bin .lss Gt NU,none⟩]
def MC:List bx:=[.L 0 (oM Pb k3),.L 1 (oF Mw 36 k1),.L 2 (oL H8 1 Mw),.L 3 (oM Mx k6),.L 4 (oI Lh 23 H8 Mx),.L 5 (oF Pc 2 Lh),.L 6 (oA Li 7 Pc),.L 7 (oF Pd 36 k1),.L 8 (oL NW 1 Pd),.L 9 (oM Se k6),.L 10 (oI Sf 23 NW Se),.L 11 (oF Uz 9 Sf),.L 12 (oA VL 7 Uz),.L 13 (oF UA 36 k1),.L 14 (oL Vq 1 UA),.L 15 (oM Ly k6),.L 16 (oI Vr 23 Vq Ly),.L 17 (oF Ww 16 Vr),.L 18 (oA VM 7 Ww),.A 19 ⟨VN,.bslice 7 3 [(I 0),(.str 0 0),(I 0),.nils,.nils,.nils,(I 0)] [(0,7,Li),(7,7,VL),(14,7,VM)],none⟩,.H 20 ⟨Sh,.append 7 Pb VN,none⟩ [19],.R [],.L 21 (oM k3 Sh)]
def MD:List J:=[oM Om k6,⟨Rr,.bin .add Om (I 1),none⟩,oM k6 Rr]
def EV:U:=(.seq (.seq uI (.cond NV .skip (.exit 5))) (.seq (.block 6 (.staged MC ⟨[Pb,Mw,H8,Mx,Lh,Pc,Li,Pd,NW,Se,Sf,Uz,VL,UA,Vq,Ly,Vr,Ww,VM,VN,Sh,k3],[]⟩)) MD))
def uJ:List J:=[oE XZ bM 5,oM XY XZ]
def BN:List J:=[oM Xi k3,oF X7 29 k1,oA X8 7 X7,oF UB 38 k1,oA VO 7 UB,⟨YO,.bslice 7 2 [(I 0),(.str 0 0),(I 0),.nils,.nils,.nils,(I 0)] [(0,7,X8),(7,7,VO)],none⟩,⟨Z9,.append 7 Xi YO,none⟩,oM k3 Z9]
def BO:List J:=[oJ k7 (I 0)]
def pq:List J:=[oM k96 k7,oF YP 37 k1,oL VP 1 YP,oZ YQ VP,⟨yK,.bin .lss k96 YQ,none⟩]
def BQ:List J:=[oJ k8 (I 0)]
def uK:List J:=[oM BR k8,oF Dy 37 k1,oL BS 1 Dy,oM DB k7,oI DC 3 BS DB,oF wa 2 DC,oL BT 1 wa,oZ EW BT,⟨DD,.bin .lss BR EW,none⟩]
def ME:List bx:=[.L 0 (oM DG k3),.L 1 (oF Gu 37 k1),.L 2 (oL Gv 1 Gu),.L 3 (oM NX k7),.L 4 (oI EX 3 Gv NX),.L 5 (oF Je 2 EX),.L 6 (oL Lz 1 Je),.L 7 (oM Jf k8),.L 8 (oI DH 14 Lz Jf),.L 9 (oF EY 0 DH),.L 10 (oA Jg 7 EY),.L 11 (oF RC 37 k1),.L 12 (oL RD 1 RC),.L 13 (oM VQ k7),.L 14 (oI TA 3 RD VQ),.L 15 (oF RE 2 TA),.L 16 (oL RF 1 RE),.L 17 (oM VR k8),.L 18 (oI Gy 14 RF VR),.L 19 (oF RG 7 Gy),.L 20 (oA TB 7 RG),.A 21 ⟨RH,.bslice 7 2 [(I 0),(.str 0 0),(I 0),.nils,.nils,.nils,(I 0)] [(0,7,Jg),(7,7,TB)],none⟩,.H 22 ⟨TC,.append 7 DG RH,none⟩ [21],.R [],.L 23 (oM k3 TC)]
def MF:List J:=[oM BU k8,⟨AY,.bin .add BU (I 1),none⟩,oM k8 AY]
def EZ:U:=(.seq (.seq uK (.cond DD .skip (.exit 9))) (.seq (.block 10 (.staged ME ⟨[DG,Gu,Gv,NX,EX,Je,Lz,Jf,DH,EY,Jg,RC,RD,VQ,TA,RE,RF,VR,Gy,RG,TB,RH,TC,k3],[]⟩)) MF))
def MG:List J:=[oM AZ k7,⟨qY,.bin .add AZ (I 1),none⟩,oM k7 qY]
def E1:U:=(.seq (.seq pq (.cond yK .skip (.exit 7))) (.seq (.block 8 (.seq BQ (.block 9 (.loop EZ)))) MG))
def kT:List J:=[oM Jh k3,oM k2 Jh]
def A0:eG:=⟨(.seq EN (.seq EO (.seq (.seq EP (.block 0 (.seq vZ (.cond bW ER (.seq v7 (.cond dv (.seq (.seq ES (.block 1 (.loop ET))) (.seq BK (.block 3 (.loop EU)))) (.seq uH (.cond BD (.seq BL (.seq BM (.block 5 (.loop EV)))) (.seq uJ (.cond XY (.seq BN (.seq BO (.block 7 (.loop E1)))) .skip)))))))))) (.seq kT .ret)))),[.tmp k2]⟩
def Pj:List J:=[oB k2 k0,oJ k4 .nils]
def Pk:List J:=[oJ k5 .nils]
def Pl:List J:=[oJ k6 (I 0)]
def wb:List J:=[oF k9 0 k2,oL bM 1 k9,oE bW bM 6]
def Pm:List J:=[oJ k6 (I 2)]
def wc:List J:=[oF cr 0 k2,oL cu 1 cr,oE bZ cu 8]
def E3:List J:=[oF cv 3 k2,oL cK 1 cv,oZ cO cK,oM k6 cO]
def Fa:List J:=[oJ k7 (I 0)]
def Fc:List J:=[oM dv k7,oM dx k6,⟨db,.bin .lss dv dx,none⟩]
def Pn:List J:=[oM eH k5,oM fh k1,oF ic 6 k2,oL fJ 1 ic,oM hU k7,⟨jm,.build [(.str 0 0),(I 0),(I 0)] [(0,1,fh),(1,1,fJ),(2,1,hU)],none⟩,⟨gu,.bslice 3 1 [(.str 0 0),(I 0),(I 0)] [(0,3,jm)],none⟩,⟨jK,.append 3 eH gu,none⟩,oM k5 jK]
def MH:List J:=[oM dB k7,⟨cV,.bin .add dB (I 1),none⟩,oM k7 cV]
def Fe:U:=(.seq (.seq Fc (.cond db .skip (.exit 0))) (.seq (.block 1 Pn) MH))
def BV:List J:=[oJ k8 (I 0)]
def uL:List J:=[oM mj k8,oF mu 5 k2,oL mv 1 mu,oZ jB mv,⟨mS,.bin .lss mj jB,none⟩]
def MI:List J:=[oM oK k5,oF qZ 5 k2,oL jv 1 qZ,oM q9 k8,oI qV 7 jv q9,oA qW 7 qV,oM qX k1,oC sg pK [qW,qX],⟨rC,.append 3 oK sg,none⟩,oM k5 rC]
def MJ:List J:=[oM lY k8,⟨iX,.bin .add lY (I 1),none⟩,oM k8 iX]
def Ff:U:=(.seq (.seq uL (.cond mS .skip (.exit 2))) (.seq (.block 3 MI) MJ))
def uM:List J:=[oM vH k5,oM k4 vH]
def GZ:eG:=⟨(.seq Pj (.seq Pk (.seq Pl (.seq (.seq wb (.cond bW Pm .skip)) (.seq (.seq wc (.cond bZ E3 .skip)) (.seq (.seq Fa (.block 0 (.loop Fe))) (.seq (.seq BV (.block 2 (.loop Ff))) (.seq uM .ret)))))))),[.tmp k4]⟩
def xM:List J:=[oJ k4 (I 0)]
def xN:List J:=[oM k7 k0,oC k8 jL [k7],oM k5 k8]
def xO:List J:=[oM k9 k1,oC bM jL [k9],oM k6 bM]
def xP:List J:=[oM bW k5]
def NY:List J:=[oM cr k6]
def NZ:List J:=[oJ k4 (I 0)]
def N0:List J:=[oJ k4 (I (-1))]
def xQ:List J:=[oM cu k6]
def Oa:List J:=[oJ k4 (I 1)]
def jP:List J:=[oM bZ k0,oM cv k1,⟨cK,.bin .lss bZ cv,none⟩]
def we:List J:=[oJ k4 (I (-1))]
def nO:List J:=[oM cO k0,oM dv k1,⟨dx,.bin .gtr cO dv,none⟩]
def wg:List J:=[oJ k4 (I 1)]
def wh:List J:=[oJ k4 (I 0)]
def nP:eG:=⟨(.seq xM (.seq xN (.seq xO (.seq (.seq xP (.cond bW (.seq (.seq NY (.cond cr (.seq NZ .ret) .skip)) (.seq N0 .ret)) .skip)) (.seq (.seq xQ (.cond cu (.seq Oa .ret) .skip)) (.seq (.seq jP (.cond cK (.seq we .ret) .skip)) (.seq (.seq nO (.cond dx (.seq wg .ret) .skip)) (.seq wh .ret)))))))),[.tmp k4]⟩
def Fg:List J:=[oJ k4 (I 0)]
def Fh:List J:=[oM k7 k0,oC k8 pt [k7],oM k5 k8]
def Fi:List J:=[oM k9 k1,oC bM pt [k9],oM k6 bM]
def Fj:List J:=[oM bW k5]
def TD:List J:=[oM cr k6]
def TE:List J:=[oJ k4 (I 0)]
def TF:List J:=[oJ k4 (I (-1))]
def Fk:List J:=[oM cu k6]
def TG:List J:=[oJ k4 (I 1)]
def nQ:List J:=[oM bZ k0,oM cv k1,⟨cK,.bin .lss bZ cv,none⟩]
def CD:List J:=[oJ k4 (I (-1))]
def tL:List J:=[oM cO k0,oM dv k1,⟨dx,.bin .gtr cO dv,none⟩]
def CE:List J:=[oJ k4 (I 1)]
def CF:List J:=[oJ k4 (I 0)]
def uN:eG:=⟨(.seq Fg (.seq Fh (.seq Fi (.seq (.seq Fj (.cond bW (.seq (.seq TD (.cond cr (.seq TE .ret) .skip)) (.seq TF .ret)) .skip)) (.seq (.seq Fk (.cond cu (.seq TG .ret) .skip)) (.seq (.seq nQ (.cond cK (.seq CD .ret) .skip)) (.seq (.seq tL (.cond dx (.seq CE .ret) .skip)) (.seq CF .ret)))))))),[.tmp k4]⟩
def Si:List J:=[oJ k2 (I 0)]
def Ie:List J:=[oM k3 k0]
def Sj:List J:=[oJ k2 (I (-1))]
def Sk:List J:=[oJ k2 (I 1)]
def LA:eG:=⟨(.seq Si (.seq (.seq Ie (.cond k3 (.seq Sj .ret) .skip)) (.seq Sk .ret))),[.tmp k2]⟩
def CG:List J:=[oJ k2 (.bool false)]
def CH:List J:=[oM k3 k0,oM k4 k0,⟨k5,.bin .neq k3 k4,none⟩,oM k2 k5]
def cmp_isNaN_string:eG:=⟨(.seq CG (.seq CH .ret)),[.tmp k2]⟩
def Ji:List J:=[oJ k2 (.bool false)]
def Jj:List J:=[oM k3 k0,oM k4 k0,⟨k5,.bin .neq k3 k4,none⟩,oM k2 k5]
def cmp_isNaN_int:eG:=⟨(.seq Ji (.seq Jj .ret)),[.tmp k2]⟩
end Tb
/-
 SG: well-formed data: cells and rows by their types; rows that grow. No condition.
-/
namespace Go.Sx
open Go
inductive CT where
 |int
 |str
 |bool
 |sl (k:Nat)
deriving DecidableEq
abbrev H6:=Nat→List CT
mutual
def AV.wt:AV→Nat
 |.sl l n _ _=>n+AV.iN l
 |_=>0
def AV.iN:List AV→Nat
 | []=>0
 |x ::l=>AV.wt x+AV.iN l
end
@[simp] theorem agZ:AV.iN []=0:=by unfold AV.iN;rfl
@[simp] theorem Y7(x:AV)(l:List AV):AV.iN (x ::l)=AV.wt x+AV.iN l:=by rw[AV.iN]
@[simp] theorem aGm(k:IntKind)(s:SI):AV.wt (.int k s)=0:=by unfold AV.wt;rfl
@[simp] theorem aGn(n c:Nat):AV.wt (.str n c)=0:=by unfold AV.wt;rfl
@[simp] theorem azR(b:Bool):AV.wt (.bool b)=0:=by unfold AV.wt;rfl
@[simp] theorem azS:AV.wt .nils=0:=by unfold AV.wt;rfl
@[simp] theorem awQ(l:List AV)(n z:Nat)(f:SF):AV.wt (.sl l n z f)=n+AV.iN l:=by rw[AV.wt]
@[simp] theorem vg:∀ a b:List AV,AV.iN (a++b)=AV.iN a+AV.iN b
 | [],b=>by simp
 |x ::a,b=>by simp[vg a b,Nat.add_assoc]
abbrev Rl(m m' w:Nat):Prop:=(m=0∧m'=0∧w=0)∨w+1+8*m'≤8*m
mutual
inductive dg(W:H6):CT→AV→Prop
 |int (n:Int):-9223372036854775808≤n→n<9223372036854775808→dg W .int (.int .i64 (.lit n))
 |str (n c:Nat):c<256^n→n≤10000→dg W .str (.str n c)
 |bool (b:Bool):dg W .bool (.bool b)
 |nil (k:Nat):dg W (.sl k) .nils
 |sl (k:Nat) (rs:List (List AV)):rs.length≤100000→dy W k rs→dg W (.sl k) (.sl rs.flatten rs.length (W k).length .any)
inductive dy(W:H6):Nat→List (List AV)→Prop
 |nil (k:Nat):dy W k []
 |cons (k:Nat) (r:List AV) (rs:List (List AV)):cJ W (W k) r→dy W k rs→dy W k (r ::rs)
inductive cJ(W:H6):List CT→List AV→Prop
 |nil:cJ W [] []
 |cons (t:CT) (ts:List CT) (c:AV) (cs:List AV):dg W t c→cJ W ts cs→cJ W (t ::ts) (c ::cs)
end
variable{W:H6}
theorem dg.jh{t:CT}{c:AV}(h:dg W t c):XP c:=by
 cases h with
 |int n _ _=>exact Lt _ _
 |str n c _ _=>exact Uo _ _
 |bool b=>exact akQ _
 |nil k=>exact QS
 |sl k rs _ _=>exact VH _ _ _
theorem dg.cell{t:CT}{c:AV}(h:dg W t c):c.aD=true:=by cases h<;>rfl
theorem dg.cells{t:CT}{c:AV}(h:dg W t c):c.cells=[c]:=by cases h<;>rfl
theorem cJ.len:∀ {ts:List CT} {cs:List AV},cJ W ts cs→cs.length=ts.length
 |_,_,.nil=>rfl
 |_,_,.cons _ _ _ _ _ h=>by rw[Tj,Tj,h.len]
theorem cJ.bY:∀ {ts:List CT} {cs:List AV},cJ W ts cs→∀ y∈cs,XP y
 |_,_,.nil,y,hy=>by simp at hy
 |_,_,.cons _ _ _ _ hc h,y,hy=>by
  rcases xH.1 hy with rfl|hy
  ·exact hc.jh
  ·exact h.bY y hy
theorem cJ.aU:∀ {ts:List CT} {cs:List AV},cJ W ts cs→∀ y∈cs,AV.aD y=true
 |_,_,.nil,y,hy=>by simp at hy
 |_,_,.cons _ _ _ _ hc h,y,hy=>by
  rcases xH.1 hy with rfl|hy
  ·exact hc.cell
  ·exact h.aU y hy
theorem cJ.get:∀ {ts:List CT} {cs:List AV},cJ W ts cs→∀ {i:Nat} {t:CT},ts[i]?=some t→∃ c,cs[i]?=some c∧dg W t c
 |_,_,.nil,i,t,hi=>by simp at hi
 |_,_,.cons t' ts c cs hc h,i,t,hi=>by
  cases i with
  |zero=>simp at hi;subst hi;exact⟨c,rfl,hc⟩
  |succ i=>simp at hi;simpa using h.get hi
theorem cJ.append:∀ {ts:List CT} {cs:List AV} {us:List CT} {ds:List AV},cJ W ts cs→cJ W us ds→cJ W (ts++us) (cs++ds)
 |_,_,_,_,.nil,h=>h
 |_,_,_,_,.cons t ts c cs hc h,k=>.cons _ _ _ _ hc (h.append k)
theorem cJ.parts:∀ {ts us:List CT} {cs:List AV},cJ W (ts++us) cs→∃ c1 c2,cs=c1++c2∧cJ W ts c1∧cJ W us c2
 | [],us,cs,h=>⟨[],cs,rfl,.nil,h⟩
 |t ::ts,us,cs,h=>by
  cases h with
  |cons _ _ c cs hc h=>
   obtain⟨c1,c2,rfl,h1,h2⟩:=cJ.parts h
   exact⟨c ::c1,c2,rfl,.cons _ _ _ _ hc h1,h2⟩
theorem dy.app:∀ {k:Nat} {rs qs:List (List AV)},dy W k rs→dy W k qs→dy W k (rs++qs)
 |_,_,_,.nil _,h=>h
 |_,_,_,.cons _ _ _ hr h,q=>.cons _ _ _ hr (h.app q)
theorem dy.one{k:Nat}{r:List AV}(h:cJ W (W k) r):dy W k [r]:=.cons _ _ _ h (.nil _)
theorem dy.mem:∀ {k:Nat} {rs:List (List AV)},dy W k rs→∀ r∈rs,cJ W (W k) r
 |_,_,.nil _,r,h=>by simp at h
 |_,_,.cons _ _ _ hr hs,r,h=>by
  rcases xH.1 h with rfl|h
  ·exact hr
  ·exact hs.mem r h
theorem dy.len:∀ {k:Nat} {rs:List (List AV)},dy W k rs→rs.flatten.length=rs.length*(W k).length
 |_,_,.nil _=>by simp
 |_,_,.cons _ _ _ hr h=>by rw[Xh,Lc,h.len,hr.len,Tj,Nat.add_mul,Nat.one_mul,Nat.add_comm]
theorem dy.bY{k:Nat}{rs:List (List AV)}(h:dy W k rs):∀ y∈rs.flatten,XP y:=by
 intro y hy
 obtain⟨r,hr,hy⟩:=List.mem_flatten.1 hy
 exact(h.mem r hr).bY y hy
theorem dy.aU{k:Nat}{rs:List (List AV)}(h:dy W k rs):rs.flatten.all AV.aD=true:=by
 refine mi.2 fun y hy=>?_
 obtain⟨r,hr,hy⟩:=List.mem_flatten.1 hy
 exact(h.mem r hr).aU y hy
theorem dy.at_:∀ {k:Nat} {rs:List (List AV)},dy W k rs→∀ {i:Nat} (hi:i<rs.length),(rs.flatten.drop (i*(W k).length)).take (W k).length=rs[i]∧cJ W (W k) rs[i]
 |_,_,.nil _,i,hi=>by simp at hi
 |_,_,.cons k r rs hr h,i,hi=>by
  cases i with
  |zero=>
   refine⟨?_,hr⟩
   simp only[Nat.zero_mul,List.drop_zero,Xh,List.getElem_cons_zero]
   rw[List.take_append_of_le_length (by rw[hr.len];exact bS _),XO (by rw[hr.len];exact bS _)]
  |succ i=>
   have h2:=h.at_ (i:=i) (by simpa using hi)
   refine⟨?_,by simpa using h2.2⟩
   have e:(i+1)*(W k).length=r.length+i*(W k).length:=by rw[hr.len,Nat.add_mul,Nat.one_mul,Nat.add_comm]
   rw[Xh,e,zqq,List.drop_eq_nil_of_le (by omega),List.nil_append,Nat.add_sub_cancel_left,h2.1]
   simp
theorem abk:∀ {a b:List AV},AV.kP a=true→AV.kP b=true→AV.kP (a++b)=true
 | [],_,_,hb=>hb
 |x ::a,b,ha,hb=>by
  simp only[AV.kP,Ad] at ha
  simp only[List.cons_append,AV.kP,Ad]
  exact⟨ha.1,abk ha.2 hb⟩
mutual
theorem dg.lits:∀ {t:CT} {c:AV},dg W t c→AV.lits c=true
 |_,_,.int _ _ _=>rfl
 |_,_,.str _ _ _ _=>rfl
 |_,_,.bool _=>rfl
 |_,_,.nil _=>rfl
 |_,_,.sl k rs _ h=>by
  have:=h.lits
  simpa[AV.lits] using this
theorem dy.lits:∀ {k:Nat} {rs:List (List AV)},dy W k rs→AV.kP rs.flatten=true
 |_,_,.nil _=>rfl
 |_,_,.cons _ r rs hr h=>by
  rw[Xh]
  exact abk hr.lits h.lits
theorem cJ.lits:∀ {ts:List CT} {cs:List AV},cJ W ts cs→AV.kP cs=true
 |_,_,.nil=>rfl
 |_,_,.cons _ _ _ _ hc h=>by
  have h1:=hc.lits
  have h2:=h.lits
  simp[AV.kP,h1,h2]
end
structure Gw(W:H6)(k:Nat)(c:AV)(len:Nat)(h:T ab)(nx n0:Key):Prop where
 is:∃ rs,rs.length+AV.iN rs.flatten≤len∧dy W k rs∧App c rs.flatten rs.length (W k).length h nx n0
theorem Gw.nil(k:Nat)(h:T ab)(nx n0:Key):Gw W k .nils 0 h nx n0:=⟨⟨[],by simp,.nil _,App.nil _⟩⟩
theorem Gw.ext{k:Nat}{c:AV}{len:Nat}{h h':T ab}{nx nx' n0:Key}(g:Gw W k c len h nx n0)(e:Ext h nx h' nx'):Gw W k c len h' nx' n0:=by
 obtain⟨rs,a,b,d⟩:=g.is
 exact⟨⟨rs,a,b,d.ext e⟩⟩
theorem Gw.mono{k:Nat}{c:AV}{len aff:Nat}{h:T ab}{nx n0:Key}(g:Gw W k c len h nx n0)(e:len≤aff):Gw W k c aff h nx n0:=by
 obtain⟨rs,a,b,d⟩:=g.is
 exact⟨⟨rs,by omega,b,d⟩⟩
theorem Gw.cell{k:Nat}{c:AV}{len:Nat}{h:T ab}{nx n0:Key}(g:Gw W k c len h nx n0):c.aD=true∧c.cells=[c]:=by
 obtain⟨rs,a,b,d⟩:=g.is
 exact d.cell
theorem Gw.add{k:Nat}{c:AV}{len:Nat}{h:T ab}{nx n0:Key}(g:Gw W k c len h nx n0)(h0:n0.toNat≤nx.toNat){r:List AV}(hr:cJ W (W k) r)(hl:len+1≤1048576) :
  ∃ c' h' nx',appendTo (W k).length c r 1 h nx=.val c' h' nx'∧Gw W k c' (len+1+AV.iN r) h' nx' n0∧nx.toNat≤nx'.toNat∧(∀ b:Key,b.toNat<n0.toNat→aa b h'=aa b h)∧(∀ b:Key,b.toNat<nx.toNat→(∀ B,aa b h=some B→B≠.tok∧∀ l,B≠.cells l .part)→aa b h'=aa b h):=by
 obtain⟨rs,a,b,d⟩:=g.is
 have aem:=dy.one hr
 have hc:=aem.aU
 rw[List.flatten_singleton] at hc
 obtain⟨c',h',nx',x1,x2,x3,x4,x5⟩:=d.ae0 (new:=r) (m:=1) h0 (by rw[hr.len,Nat.one_mul]) (by omega) hc
 refine⟨c',h',nx',x1,⟨⟨rs ++ [r],?_,b.app aem,?_⟩⟩,x3,x4,x5⟩
 ·rw[List.flatten_append,List.flatten_singleton,Lc,vg]
  simp;omega
 ·rw[List.flatten_append,List.flatten_singleton,Lc]
  exact x2
def Rf(h h':T ab):Prop:=∀ (b:Key) (l:List AV) (kk:CK),aa b h=some (.cells l kk)→(kk=.fix∨kk=.ro)→∃ kk':CK,(kk'=.fix∨kk'=.ro)∧aa b h'=some (.cells l kk')
theorem Rf.refl(h:T ab):Rf h h:=fun b l kk hb hk=>⟨kk,hk,hb⟩
theorem Rf.trans{h h1 h2:T ab}(a:Rf h h1)(b:Rf h1 h2):Rf h h2:=fun k l kk hb hk=>by
 obtain⟨k1,h1,g1⟩:=a k l kk hb hk
 exact b k l k1 g1 h1
variable{n0:Key}
def Lo(n0:Key)(h h':T ab):Prop:=∀ b:Key,b.toNat<n0.toNat→aa b h'=aa b h
theorem KN(g:AV→T ab→AV×T ab):∀ (a b:List AV) (h:T ab),az g (a++b) h=((az g a h).1++(az g b (az g a h).2).1,(az g b (az g a h).2).2)
 | [],b,h=>rfl
 |x ::a,b,h=>by
  have ih:=KN g a b (g x h).2
  simp only[List.cons_append,Gf,ih]
theorem aba{b:Key}{l:List AV}{h:T ab}(hb:aa b h=some (.cells l .fix)):Rf h (aK b (some (.cells l .ro)) h):=by
 intro q l' kk hq hk
 by_cases e:q=b
 ·subst e
  rw[hb] at hq
  simp only[dO,ab.cells.injEq] at hq
  exact⟨.ro,.inr rfl,by rw[gTSm,hq.1]⟩
 ·exact⟨kk,hk,by rw[bU _ _ _ _ e];exact hq⟩
def Pp(h h':T ab):Prop:=∀ (b:Key) (l:List AV),aa b h=some (.cells l .part)→aa b h'=some (.cells l .part)
theorem Pp.refl(h:T ab):Pp h h:=fun _ _ h=>h
theorem Pp.trans{h h1 h2:T ab}(a:Pp h h1)(b:Pp h1 h2):Pp h h2:=fun k l hk=>b k l (a k l hk)
theorem aix{b:Key}{l:List AV}{h:T ab}(hb:aa b h=some (.cells l .fix)):Pp h (aK b (some (.cells l .ro)) h):=by
 intro q l' hq
 by_cases e:q=b
 ·subst e;rw[hb] at hq;simp at hq
 ·rw[bU _ _ _ _ e];exact hq
theorem Gw.OS{k:Nat}{c:AV}{len:Nat}{h:T ab}{nx:Key}(g:Gw W k c len h nx n0)(hl:len≤100000):dg W (.sl k) (ax 9999 c h).1∧AV.wt (ax 9999 c h).1≤len∧Lo n0 h (ax 9999 c h).2:=by
 obtain⟨rs,a,b,d⟩:=g.is
 obtain⟨h1,h2⟩:=d.OS b.bY 9998
 refine⟨?_,?_,h2⟩
 ·rcases h1 with⟨e,_,_⟩|e
  ·rw[e];exact .nil _
  ·rw[e];exact .sl _ _ (by omega) b
 ·rcases h1 with⟨e,_,_⟩|e
  ·rw[e];simp
  ·rw[e,awQ];exact a
theorem Gw.own{W:H6}{k:Nat}{c:AV}{len:Nat}{h:T ab}{nx n0:Key}(g:Gw W k c len h nx n0){b:Key}(hb:rk c b):n0.toNat≤b.toNat∧b.toNat<nx.toNat:=by
 obtain⟨rs,a,x,d⟩:=g.is
 rcases d.is with⟨rfl,e1,e2⟩|⟨q,rfl,hq,vj,aM,RJ⟩|⟨t,rfl,ht,vj,aM⟩
 ·rcases hb with⟨_,_,e⟩|⟨_,_,_,e⟩<;>cases e
 ·rcases hb with⟨_,_,e⟩|⟨_,_,_,e⟩
  ·cases e;exact⟨vj,aM⟩
  ·cases e
 ·rcases hb with⟨_,_,e⟩|⟨_,_,_,e⟩
  ·cases e
  ·cases e;exact⟨vj,aM⟩
theorem Gw.low{W:H6}{k:Nat}{c:AV}{len:Nat}{h:T ab}{nx n0 n1:Key}(g:Gw W k c len h nx n1)(hn:n0.toNat≤n1.toNat):Gw W k c len h nx n0:=by
 obtain⟨rs,a,x,d⟩:=g.is
 refine⟨⟨rs,a,x,⟨?_⟩⟩⟩
 rcases d.is with⟨a1,a2,a3⟩|⟨b,a1,a2,a3,a4,a5⟩|⟨t,a1,a2,a3,a4⟩
 ·exact .inl ⟨a1,a2,a3⟩
 ·exact .inr (.inl ⟨b,a1,a2,by omega,a4,a5⟩)
 ·exact .inr (.inr ⟨t,a1,a2,by omega,a4⟩)
theorem Gw.stay{W:H6}{k:Nat}{c:AV}{len:Nat}{h h':T ab}{nx nx' n0:Key}(g:Gw W k c len h nx n0)(hn:nx.toNat≤nx'.toNat)(hs:∀ b,rk c b→aa b h'=aa b h):Gw W k c len h' nx' n0:=by
 obtain⟨rs,a,x,d⟩:=g.is
 refine⟨⟨rs,a,x,⟨?_⟩⟩⟩
 rcases d.is with⟨a1,a2,a3⟩|⟨b,a1,a2,a3,a4,a5⟩|⟨t,a1,a2,a3,a4⟩
 ·exact .inl ⟨a1,a2,a3⟩
 ·exact .inr (.inl ⟨b,a1,by rw[hs b (by rw[a1];exact .inl ⟨_,_,rfl⟩)];exact a2,a3,by omega,a5⟩)
 ·exact .inr (.inr ⟨t,a1,by rw[hs t (by rw[a1];exact .inr ⟨_,_,_,rfl⟩)];exact a2,a3,by omega⟩)
end Go.Sx
/-
 SP: a machine that has the generators' and the reference parser's functions. No condition.
-/
namespace Tb
open Go.Sx Go
structure dd(C:cU):Prop where
 orc:C.orc=[]
 QO:Fn C jI wk
 Zd:C.raw jI=false
 XC:Fn C cZ Aq
 fG:C.raw cZ=false
 ac6:Fn C DJ LC
 ac7:C.raw DJ=false
 acq:Fn C DL LF
 acr:C.raw DL=false
 Xr:Fn C uV AF
 Xs:C.raw uV=false
 Zj:Fn C rI DP
 QQ:C.raw rI=false
 aaO:Fn C dK Hj
 pT:C.raw dK=false
 ad9:Fn C G4 Rs
 adZ:C.raw G4=false
 ac0:Fn C wj LG
 acv:C.raw wj=false
 aaP:Fn C Ao Hk
 aav:C.raw Ao=false
 TP:Fn C au tg
 ay:C.raw au=false
 NP:Fn C fL mr
 yu:C.raw fL=false
 RP:Fn C mw qO
 RI:C.raw mw=false
 QU:Fn C iy nY
 Bp:C.raw iy=false
 RB:Fn C dV qH
 tW:C.raw dV=false
 T5:Fn C gX tq
 Gj:C.raw gX=false
 RK:Fn C aP qP
 aq:C.raw aP=false
 QR:Fn C aJ nT
 ar:C.raw aJ=false
 Od:Fn C cE mJ
 bl:C.raw cE=false
 Oe:Fn C et mI
 qA:C.raw et=false
 RT:Fn C ja qR
 Dg:C.raw ja=false
 RL:Fn C bF qQ
 dT:C.raw bF=false
 TZ:Fn C cA th
 eL:C.raw cA=false
 Oi:Fn C jQ mz
 Oh:C.raw jQ=false
 Rb:Fn C iw nX
 Bo:C.raw iw=false
 YB:Fn C cY LD
 iM:C.raw cY=false
 SP:Fn C bT A6
 cN:C.raw bT=false
 Ze:Fn C cq DO
 cX:C.raw cq=false
 V0:Fn C df wL
 dS:C.raw df=false
 Wl:Fn C bE wK
 bQ:C.raw bE=false
 ZF:Fn C vW DN
 ZQ:C.raw vW=false
 Up:Fn C lj uB
 GL:C.raw lj=false
 acp:Fn C fq LO
 ji:C.raw fq=false
 Vv:Fn C mL vI
 Wd:C.raw mL=false
 T6:Fn C nR sS
 TY:C.raw nR=false
 Xu:Fn C uT AB
 Xy:C.raw uT=false
 ZN:Fn C wi DQ
 Z0:C.raw wi=false
 Xf:Fn C pg Ae
 NN:C.raw pg=false
 aaS:Fn C An G9
 aaQ:C.raw An=false
 Yn:Fn C aS Dm
 cH:C.raw aS=false
 Xo:Fn C fF AH
 Mn:C.raw fF=false
 aaL:Fn C fi Hw
 pJ:C.raw fi=false
 LR:Fn C cG vo
 Dr:C.raw cG=false
 Xq:Fn C uU AD
 Xz:C.raw uU=false
 Zc:Fn C jM DT
 QN:C.raw jM=false
 Cp:Fn C fD pQ
 Bv:C.raw fD=false
 XF:Fn C uq AG
 W8:C.raw uq=false
 Xm:Fn C uW AI
 XG:C.raw uW=false
 U7:Fn C lq vd
 UT:C.raw lq=false
 Tw:Fn C jE sw
 TV:C.raw jE=false
 aau:Fn C Ap Hx
 aaI:C.raw Ap=false
 Wk:Fn C mW wS
 KR:C.raw mW=false
 ZA:Fn C rq DU
 Q3:C.raw rq=false
 Y8:Fn C ao wO
 bD:C.raw ao=false
 XH:Fn C pw AE
 NO:C.raw pw=false
 Y9:Fn C ah wQ
 bg:C.raw ah=false
 Xl:Fn C aL AA
 bJ:C.raw aL=false
 aaK:Fn C hZ Hv
 pI:C.raw hZ=false
 aaR:Fn C Am G5
 aaH:C.raw Am=false
 XI:Fn C uQ uf
 Xw:C.raw uQ=false
 acw:Fn C DM LP
 fy:C.raw DM=false
 VX:Fn C mX xi
 KQ:C.raw mX=false
 Vc:Fn C iT vf
 xw:C.raw iT=false
 YR:Fn C rH DI
 Z1:C.raw rH=true
 VY:Fn C mZ xr
 KU:C.raw mZ=false
 Za:Fn C vl QI
 TN:C.raw vl=false
 aao:Fn C cL GP
 dL:C.raw cL=false
 U1:Fn C lu ve
 HS:C.raw lu=false
 aan:Fn C Ah GO
 aaM:C.raw Ah=false
 Wf:Fn C jw xk
 dQ:C.raw jw=false
 Xv:Fn C py AJ
 dI:C.raw py=false
 Wg:Fn C mY xj
 dP:C.raw mY=false
end Tb
/-
 SB: a machine that has the branches' functions; branches. No condition.
-/
namespace Tb
open Go.Sx Go
structure Br where
 a:Nat
 b:Nat
 n:Int
 m:Int
deriving DecidableEq,Inhabited
def eB(x:Br):List AV:=[.str x.a x.b,I x.n,I x.m]
theorem jr:Flat 3 eB where
 len _:=rfl
 jh x y hy:=by
  simp[eB] at hy
  rcases hy with rfl|rfl|rfl
  ·exact Uo _ _
  ·exact Lt _ _
  ·exact Lt _ _
 cell x y hy:=by
  simp[eB] at hy
  rcases hy with rfl|rfl|rfl<;>rfl
 lits x:=rfl
abbrev pB:Bu:=.parts [(0,.str),(1,.int),(2,.int)]
theorem agk(n c m d:Nat):nw [] .str (.str n c) (.str m d)=some (Nat.beq n m&&Nat.beq c d):=by rw[nw]
theorem Wh(a b:Int):nw [] .int (I a) (I b)=some (a==b):=by rw[nw];simp[beqKind]
theorem Eb(off:Nat)(p:Bu)(l:List (Nat×Bu))(a b:List AV)(x y:AV)(hx:nth off a=some x)(hy:nth off b=some y)(r:Bool)(h:nw [] p x y=some r):dq [] ((off,p) ::l) a b=if r then dq [] l a b else some false:=by
 rw[dq,hx,hy];simp only[h];cases r<;>rfl
theorem eqB(x y:Br):nw [] pB (.agg (eB x)) (.agg (eB y))=some (decide (x=y)):=by
 obtain⟨a,b,n,m⟩:=x
 obtain⟨a',b',n',m'⟩:=y
 rw[pB,nw,Eb _ _ _ _ _ (.str a b) (.str a' b') rfl rfl _ (agk _ _ _ _),Eb _ _ _ _ _ (I n) (I n') rfl rfl _ (Wh _ _),Eb _ _ _ _ _ (I m) (I m') rfl rfl _ (Wh _ _),dq]
 by_cases h1:a=a'<;>by_cases h2:b=b'<;>by_cases h3:n=n'<;>by_cases h4:m=m'<;>simp[h1,h2,h3,h4]
def ci(a b:Int):Int:=if a<b then -1 else if b<a then 1 else 0
def cs(a b:S):Int:=if Lk a.1 a.2 b.1 b.2 then -1 else if Lk b.1 b.2 a.1 a.2 then 1 else 0
def or3(a b c:Int):Int:=if a=0 then if b=0 then c else b else a
def Dj(x y:Br):Int:=if x=y then 0 else or3 (cs (x.a,x.b) (y.a,y.b)) (ci x.n y.n) (ci x.m y.m)
def arF(n m:Int):Int:=Int.tmod (if n<0 then aW .i64 (0-aW .i64 (n+1)) else n) m
def Ta(x:Br):Prop:=x.b<256^x.a
structure Std(C:cU):Prop extends dd C where
 raw:∀ f,(f≠rH∧f≠cM∧f≠xG∧f≠rB∧f≠ud)→C.raw f=false
 RQ:Fn C tG qI
 aev:Fn C GR Rq
 agi:Fn C Lw UC
 aaJ:Fn C Aj A0
 aax:Fn C pK GZ
 ZK:Fn C rB Dv
 U4:Fn C qJ pn
 aaF:Fn C ud GS
 Wi:Fn C mU vY
 XA:Fn C ph Ak
 acR:Fn C sE LA
 U5:Fn C nN EM
 Q5:Fn C ln nP
 U6:Fn C lp uN
 T0:Fn C jL cmp_isNaN_string
 XB:Fn C pt cmp_isNaN_int
abbrev aGO:=Std
end Tb
/-
 SG: structures in memory: fields that are well-formed data, and fields that grow. No condition.
-/
namespace Go.Sx
open Go
variable{W:H6}
def Gx(W:H6)(k:Nat)(c:AV)(len:Nat)(h:T ab)(nx:Key)(A:Key→Prop):Prop:=
 c=.nils∨∃ rs:List (List AV),rs.length+AV.iN rs.flatten≤len∧dy W k rs∧((∃ b:Key,c=.slice b 0 rs.length (W k).length∧(aa b h=some (.cells rs.flatten .part)∨(aa b h=some (.cells rs.flatten .fix)∧0<rs.length))∧A b∧b.toNat<nx.toNat)∨(∃ t:Key,c=.sl rs.flatten rs.length (W k).length (.tok t)∧aa t h=some .tok∧A t∧t.toNat<nx.toNat))
theorem Gx.nil(k:Nat)(h:T ab)(nx:Key)(A:Key→Prop):Gx W k .nils 0 h nx A:=.inl rfl
theorem Gx.lit{k:Nat}{r:List AV}{h:T ab}{nx b:Key}{A:Key→Prop}(hr:cJ W (W k) r)(hb:aa b h=some (.cells r .fix))(hA:A b)(hn:b.toNat<nx.toNat):Gx W k (.slice b 0 1 (W k).length) (1+AV.iN r) h nx A:=
 .inr ⟨[r],by simp,dy.one hr,.inl ⟨b,rfl,.inr ⟨by rw[hb];simp,by simp⟩,hA,hn⟩⟩
theorem Gx.own{k:Nat}{c:AV}{len:Nat}{h:T ab}{nx b:Key}{A:Key→Prop}(g:Gx W k c len h nx A)(hb:rk c b):A b∧b.toNat<nx.toNat:=by
 rcases g with rfl|⟨rs,_,_,⟨q,rfl,_,hA,hn⟩|⟨t,rfl,_,hA,hn⟩⟩
 ·rcases hb with⟨_,_,e⟩|⟨_,_,_,e⟩<;>cases e
 ·rcases hb with⟨_,_,e⟩|⟨_,_,_,e⟩<;>cases e
  exact⟨hA,hn⟩
 ·rcases hb with⟨_,_,e⟩|⟨_,_,_,e⟩<;>cases e
  exact⟨hA,hn⟩
theorem Gx.cell{k:Nat}{c:AV}{len:Nat}{h:T ab}{nx:Key}{A:Key→Prop}(g:Gx W k c len h nx A):c.aD=true∧c.cells=[c]:=by
 rcases g with rfl|⟨rs,_,_,⟨q,rfl,_⟩|⟨t,rfl,_⟩⟩<;>exact⟨rfl,rfl⟩
theorem Gx.beq{k:Nat}{c:AV}{len:Nat}{h:T ab}{nx:Key}{A:Key→Prop}(g:Gx W k c len h nx A):AV.beq c c=true:=by
 rcases g with rfl|⟨rs,_,x,⟨q,rfl,_⟩|⟨t,rfl,_⟩⟩
 ·rfl
 ·exact beq_refl _ rfl
 ·have hl:=x.lits
  generalize rs.flatten=L at hl
  exact beq_refl _ (by simpa[AV.lits] using hl)
theorem Gx.stay{k:Nat}{c:AV}{len:Nat}{h h':T ab}{nx nx':Key}{A:Key→Prop}(g:Gx W k c len h nx A)(hn:nx.toNat≤nx'.toNat)(hs:∀ b,rk c b→aa b h'=aa b h):Gx W k c len h' nx' A:=by
 rcases g with rfl|⟨rs,a,x,⟨q,rfl,hq,hA,hb⟩|⟨t,rfl,ht,hA,hb⟩⟩
 ·exact .inl rfl
 ·refine .inr ⟨rs,a,x,.inl ⟨q,rfl,?_,hA,by omega⟩⟩
  rw[hs q (.inl ⟨_,_,rfl⟩)];exact hq
 ·refine .inr ⟨rs,a,x,.inr ⟨t,rfl,?_,hA,by omega⟩⟩
  rw[hs t (.inr ⟨_,_,_,rfl⟩)];exact ht
theorem Gx.add{k:Nat}{c:AV}{len:Nat}{h:T ab}{nx:Key}{A:Key→Prop}(g:Gx W k c len h nx A)(hz:0<(W k).length)(hA:∀ b:Key,nx.toNat≤b.toNat→A b){r:List AV}(hr:cJ W (W k) r)(hl:len+1≤1048576) :
  ∃ c' h' nx',appendTo (W k).length c r 1 h nx=.val c' h' nx'∧Gx W k c' (len+1+AV.iN r) h' nx' A∧(∀ b,rk c' b→nx.toNat≤b.toNat)∧nx.toNat≤nx'.toNat∧(∀ b:Key,b.toNat<nx.toNat→¬ rk c b→aa b h'=aa b h):=by
 have s1:=kTSu nx
 have aem:=dy.one hr
 have hc:=aem.aU
 rw[List.flatten_singleton] at hc
 have On:=hr.len
 have ayc:∀ (q b:Key) (n z:Nat),rk (.slice q 0 n z) b→b=q:=fun q b n z hb=>by rcases hb with⟨_,_,e⟩|⟨_,_,_,e⟩<;>cases e;rfl
 have ayd:∀ (q b:Key) (L:List AV) (n z:Nat),rk (.sl L n z (.tok q)) b→b=q:=fun q b L n z hb=>by rcases hb with⟨_,_,e⟩|⟨_,_,_,e⟩<;>cases e;rfl
 rcases g with rfl|⟨rs,ha,x,⟨q,rfl,hq|⟨hq,hp⟩,hqA,aM⟩|⟨t,rfl,ht,htA,aM⟩⟩
 ·refine⟨.slice nx 0 1 (W k).length,aK nx (some (.cells r .part)) h,nx.succ,by simp,.inr ⟨[r],by simp,aem,.inl ⟨nx,rfl,.inl (by rw[gTSm];simp),hA nx (bS _),by omega⟩⟩,fun b hb=>by rw[ayc _ _ _ _ hb];exact bS _,by omega,fun b hb _=>bA hb⟩
 ·have RJ:=x.len
  have Oo:(rs ++ [r]).flatten=rs.flatten++r:=by rw[List.flatten_append,List.flatten_singleton]
  have hx2:=x.app aem
  refine⟨.sl (rs.flatten++r) (rs.length+1) (W k).length (.tok nx),aK nx (some .tok) (aK q none h),nx.succ,?_,.inr ⟨rs ++ [r],by rw[Oo,vg];simp;omega,hx2,.inr ⟨nx,by simp,by rw[gTSm],hA nx (bS _),by omega⟩⟩,fun b hb=>by rw[ayd _ _ _ _ _ hb];exact bS _,by omega,fun b hb hk=>?_⟩
  ·have Sa:rs.length≤1048575:=by omega
   generalize rs.flatten=L at hq RJ
   simp[hq,RJ,hc,Sa]
  ·rw[bA hb,bU]
   rintro rfl
   exact hk (.inl ⟨_,_,rfl⟩)
 ·have RJ:=x.len
  have Oo:(rs ++ [r]).flatten=rs.flatten++r:=by rw[List.flatten_append,List.flatten_singleton]
  have hx2:=x.app aem
  have iZ:=x.bY
  refine⟨.slice nx 0 (rs.length+1) (W k).length,aK nx (some (.cells (rs.flatten++r) .part)) h,nx.succ,?_,.inr ⟨rs ++ [r],by rw[Oo,vg];simp;omega,hx2,.inl ⟨nx,by simp,.inl (by rw[gTSm,Oo]),hA nx (bS _),by omega⟩⟩,fun b hb=>by rw[ayc _ _ _ _ hb];exact bS _,by omega,fun b hb _=>bA hb⟩
  have Sa:rs.length≤1048575:=by omega
  have hz2:∀ H,az (ax 9999) rs.flatten H=(rs.flatten,H):=fun H=>av iZ
  generalize rs.flatten=L at hq RJ hz2
  have htk:List.take (rs.length*(W k).length) L=L:=XO (by omega)
  have hgt:¬ ((rs.length+1)*(W k).length≤rs.length*(W k).length):=by rw[Nat.add_mul];omega
  simp[hq,RJ,hc,Sa,htk,hz2,hgt]
 ·have Oo:(rs ++ [r]).flatten=rs.flatten++r:=by rw[List.flatten_append,List.flatten_singleton]
  have hx2:=x.app aem
  refine⟨.sl (rs.flatten++r) (rs.length+1) (W k).length (.tok nx),aK nx (some .tok) (aK t none h),nx.succ,?_,.inr ⟨rs ++ [r],by rw[Oo,vg];simp;omega,hx2,.inr ⟨nx,by simp,by rw[gTSm],hA nx (bS _),by omega⟩⟩,fun b hb=>by rw[ayd _ _ _ _ _ hb];exact bS _,by omega,fun b hb hk=>?_⟩
  ·have Sa:rs.length≤1048575:=by omega
   generalize rs.flatten=L
   simp[ht,hc,Sa]
  ·rw[bA hb,bU]
   rintro rfl
   exact hk (.inr ⟨_,_,_,rfl⟩)
inductive FS where
 |d (t:CT)
 |g (k len:Nat)
def FS.ct:FS→CT
 |.d t=>t
 |.g k _=>.sl k
def wF:List FS→List AV→Nat
 |.d _ ::fs,c ::cs=>AV.wt c+wF fs cs
 |.g _ n ::fs,_ ::cs=>n+wF fs cs
 |_,_=>0
@[simp] theorem aHs:wF [] []=0:=rfl
@[simp] theorem aN9(t:CT)(fs:List FS)(c:AV)(cs:List AV):wF (.d t ::fs) (c ::cs)=AV.wt c+wF fs cs:=rfl
@[simp] theorem aOa(k n:Nat)(fs:List FS)(c:AV)(cs:List AV):wF (.g k n ::fs) (c ::cs)=n+wF fs cs:=rfl
inductive Fl(W:H6)(h:T ab)(nx:Key)(A:Key→Prop):List FS→List AV→Prop
 |nil:Fl W h nx A [] []
 |d (t:CT) (fs:List FS) (c:AV) (cs:List AV):dg W t c→Fl W h nx A fs cs→Fl W h nx A (.d t ::fs) (c ::cs)
 |g (k len:Nat) (fs:List FS) (c:AV) (cs:List AV):Gx W k c len h nx A→(∀ b,rk c b→∀ c'∈cs,¬ rk c' b)→Fl W h nx A fs cs→Fl W h nx A (.g k len ::fs) (c ::cs)
theorem dg.aeH{t:CT}{c:AV}(h:dg W t c)(b:Key):¬ rk c b:=by
 intro hb
 cases h<;>(rcases hb with⟨_,_,e⟩|⟨_,_,_,e⟩<;>cases e)
theorem Fl.len{h:T ab}{nx:Key}{A:Key→Prop}:∀ {fs:List FS} {cs:List AV},Fl W h nx A fs cs→cs.length=fs.length
 |_,_,.nil=>rfl
 |_,_,.d _ _ _ _ _ h=>by rw[Tj,Tj,h.len]
 |_,_,.g _ _ _ _ _ _ _ h=>by rw[Tj,Tj,h.len]
theorem Fl.aU{h:T ab}{nx:Key}{A:Key→Prop}:∀ {fs:List FS} {cs:List AV},Fl W h nx A fs cs→∀ y∈cs,AV.aD y=true
 |_,_,.nil,y,hy=>by simp at hy
 |_,_,.d _ _ _ _ hc h,y,hy=>by
  rcases xH.1 hy with rfl|hy
  ·exact hc.cell
  ·exact h.aU y hy
 |_,_,.g _ _ _ _ _ hc _ h,y,hy=>by
  rcases xH.1 hy with rfl|hy
  ·exact hc.cell.1
  ·exact h.aU y hy
theorem Fl.own{h:T ab}{nx b:Key}{A:Key→Prop}:∀ {fs:List FS} {cs:List AV},Fl W h nx A fs cs→∀ c∈cs,rk c b→A b∧b.toNat<nx.toNat
 |_,_,.nil,c,hc,_=>by simp at hc
 |_,_,.d _ _ _ _ ho h,c,hc,hb=>by
  rcases xH.1 hc with rfl|hc
  ·exact absurd hb (ho.aeH b)
  ·exact h.own c hc hb
 |_,_,.g _ _ _ _ _ hg _ h,c,hc,hb=>by
  rcases xH.1 hc with rfl|hc
  ·exact hg.own hb
  ·exact h.own c hc hb
theorem Fl.stay{h h':T ab}{nx nx':Key}{A:Key→Prop}:∀ {fs:List FS} {cs:List AV},Fl W h nx A fs cs→nx.toNat≤nx'.toNat→(∀ c∈cs,∀ b,rk c b→aa b h'=aa b h)→Fl W h' nx' A fs cs
 |_,_,.nil,_,_=>.nil
 |_,_,.d _ _ _ _ ho h,hn,hs=>.d _ _ _ _ ho (h.stay hn fun c hc=>hs c (by simp[hc]))
 |_,_,.g _ _ _ _ _ hg hx h,hn,hs=>.g _ _ _ _ _ (hg.stay hn (hs _ (by simp))) hx (h.stay hn fun c hc=>hs c (by simp[hc]))
theorem Fl.at_{h:T ab}{nx:Key}{A:Key→Prop}:∀ {fs:List FS} {cs:List AV},Fl W h nx A fs cs→∀ {i k len:Nat},fs[i]?=some (.g k len)→∃ c,cs[i]?=some c∧Gx W k c len h nx A∧∀ (j:Nat) (c':AV) (b:Key),j≠i→cs[j]?=some c'→rk c b→¬ rk c' b
 |_,_,.nil,i,k,len,hi=>by simp at hi
 |_,_,.d t fs c cs ho h,i,k,len,hi=>by
  cases i with
  |zero=>simp at hi
  |succ i=>
   obtain⟨c1,a,b,d⟩:=h.at_ (i:=i) (by simpa using hi)
   refine⟨c1,by simpa using a,b,fun j c' q hj hc hq=>?_⟩
   cases j with
   |zero=>simp at hc;subst hc;exact ho.aeH q
   |succ j=>exact d j c' q (by omega) (by simpa using hc) hq
 |_,_,.g k' aff fs c cs hg hx h,i,k,len,hi=>by
  cases i with
  |zero=>
   simp at hi
   obtain⟨rfl,rfl⟩:=hi
   refine⟨c,rfl,hg,fun j c' q hj hc hq=>?_⟩
   cases j with
   |zero=>exact absurd rfl hj
   |succ j=>exact hx q hq c' (List.mem_of_getElem? (by simpa using hc))
  |succ i=>
   obtain⟨c1,a,b,d⟩:=h.at_ (i:=i) (by simpa using hi)
   refine⟨c1,by simpa using a,b,fun j c' q hj hc hq=>?_⟩
   cases j with
   |zero=>
    simp at hc;subst hc
    exact fun h2=>hx q h2 c1 (List.mem_of_getElem? a) hq
   |succ j=>exact d j c' q (by omega) (by simpa using hc) hq
theorem Fl.aia{h:T ab}{nx:Key}{A:Key→Prop}{k len aff:Nat}{c':AV}(hg:Gx W k c' aff h nx A):∀ {fs:List FS} {cs:List AV},Fl W h nx A fs cs→∀ {i:Nat},fs[i]?=some (.g k len)→(∀ c∈cs,∀ b,rk c' b→¬ rk c b)→Fl W h nx A (fs.set i (.g k aff)) (cs.set i c')
 |_,_,.nil,i,hi,_=>by simp at hi
 |_,_,.d t fs c cs ho h,i,hi,hx=>by
  cases i with
  |zero=>simp at hi
  |succ i=>exact .d _ _ _ _ ho (h.aia hg (by simpa using hi) fun c hc=>hx c (by simp[hc]))
 |_,_,.g k2 anG fs c cs ho hy h,i,hi,hx=>by
  cases i with
  |zero=>
   simp at hi
   obtain⟨rfl,rfl⟩:=hi
   exact .g _ _ _ _ _ hg (fun b hb c2 Xc=>hx c2 (by simp[Xc]) b hb) h
  |succ i=>
   refine .g _ _ _ _ _ ho (fun b hb c2 Xc=>?_) (h.aia hg (by simpa using hi) fun c hc=>hx c (by simp[hc]))
   rcases List.mem_or_eq_of_mem_set Xc with Xc|rfl
   ·exact hy b hb c2 Xc
   ·exact fun h2=>hx c (by simp) b h2 hb
theorem Fl.Dq{h:T ab}{nx:Key}{A:Key→Prop}{t:CT}{v:AV}(hv:dg W t v):∀ {fs:List FS} {cs:List AV},Fl W h nx A fs cs→∀ {i:Nat} {f:FS},fs[i]?=some f→f.ct=t→Fl W h nx A (fs.set i (.d t)) (cs.set i v)
 |_,_,.nil,i,f,hi,_=>by simp at hi
 |_,_,.d t fs c cs ho h,i,f,hi,hf=>by
  cases i with
  |zero=>exact .d _ _ _ _ hv h
  |succ i=>exact .d _ _ _ _ ho (h.Dq hv (by simpa using hi) hf)
 |_,_,.g k2 anG fs c cs ho hy h,i,f,hi,hf=>by
  cases i with
  |zero=>exact .d _ _ _ _ hv h
  |succ i=>
   refine .g _ _ _ _ _ ho (fun b hb c2 Xc=>?_) (h.Dq hv (by simpa using hi) hf)
   rcases List.mem_or_eq_of_mem_set Xc with Xc|rfl
   ·exact hy b hb c2 Xc
   ·exact hv.aeH b
theorem Zf:∀ {fs:List FS} {cs:List AV} {i k n:Nat},fs[i]?=some (.g k n)→i<cs.length→n≤wF fs cs
 | [],_,i,_,_,h,_=>by simp at h
 |.d _ ::fs,[],i,_,_,_,h=>by simp at h
 |.g _ _ ::fs,[],i,_,_,_,h=>by simp at h
 |.d _ ::fs,c ::cs,i,k,n,h,hi=>by
  cases i with
  |zero=>simp at h
  |succ i=>
   have:=Zf (fs:=fs) (cs:=cs) (i:=i) (k:=k) (n:=n) (by simpa using h) (by simpa using hi)
   simp;omega
 |.g _ _ ::fs,c ::cs,i,k,n,h,hi=>by
  cases i with
  |zero=>simp at h;simp;omega
  |succ i=>
   have:=Zf (fs:=fs) (cs:=cs) (i:=i) (k:=k) (n:=n) (by simpa using h) (by simpa using hi)
   simp;omega
theorem LY{t:CT}{v:AV}:∀ {fs:List FS} {cs:List AV} {i:Nat},fs.length=cs.length→wF (fs.set i (.d t)) (cs.set i v)≤wF fs cs+AV.wt v
 | [],[],i,_=>by simp
 | [],_ ::_,i,h=>by simp at h
 |_ ::_,[],i,h=>by simp at h
 |f ::fs,c ::cs,i,h=>by
  cases i with
  |zero=>cases f<;>simp<;>omega
  |succ i=>
   have:=LY (t:=t) (v:=v) (fs:=fs) (cs:=cs) (i:=i) (by simpa using h)
   cases f<;>simp<;>omega
theorem Rt{k k' n w:Nat}{v:AV}:∀ {fs:List FS} {cs:List AV} {i:Nat},fs[i]?=some (.g k n)→fs.length=cs.length→wF (fs.set i (.g k' (n+1+w))) (cs.set i v)=wF fs cs+1+w
 | [],_,i,h,_=>by simp at h
 |_ ::_,[],i,_,h=>by simp at h
 |f ::fs,c ::cs,i,hi,h=>by
  cases i with
  |zero=>simp at hi;subst hi;simp;omega
  |succ i=>
   have:=Rt (k:=k) (k':=k') (n:=n) (w:=w) (v:=v) (fs:=fs) (cs:=cs) (i:=i) (by simpa using hi) (by simpa using h)
   cases f<;>simp<;>omega
theorem Z2:∀ {f1 f2:List FS} {c1 c2:List AV},f1.length=c1.length→wF (f1++f2) (c1++c2)=wF f1 c1+wF f2 c2
 | [],_,[],_,_=>by simp
 | [],_,_ ::_,_,h=>by simp at h
 |_ ::_,_,[],_,h=>by simp at h
 |f ::f1,f2,c ::c1,c2,h=>by
  have:=Z2 (f1:=f1) (f2:=f2) (c1:=c1) (c2:=c2) (by simpa using h)
  cases f<;>simp[this]<;>omega
theorem apL:∀ {ts:List CT} {vs:List AV},ts.length=vs.length→wF (ts.map FS.d) vs=AV.iN vs
 | [],[],_=>by simp
 | [],_ ::_,h=>by simp at h
 |_ ::_,[],h=>by simp at h
 |t ::ts,v ::vs,h=>by simp[apL (ts:=ts) (vs:=vs) (by simpa using h)]
theorem La{fs:List FS}{cs:List AV}{ts:List CT}{vs:List AV}{i j:Nat}(hc:fs.length=cs.length)(hv:ts.length=vs.length)(hi:i+ts.length≤fs.length)(hj:i+vs.length=j)(hf:fs.take i++(ts.map FS.d++fs.drop (i+ts.length))=fs):wF fs (cs.take i++(vs++cs.drop j))≤wF fs cs+AV.iN vs:=by
 have e1:wF fs (cs.take i++(vs++cs.drop j))=wF (fs.take i) (cs.take i)+(AV.iN vs+wF (fs.drop (i+ts.length)) (cs.drop j)):=by
  rw[← apL hv,← Z2 (by simp;omega),← Z2 (by simp;omega),hf]
 have e2:wF fs cs=wF (fs.take i) (cs.take i)+(wF (ts.map FS.d) ((cs.drop i).take ts.length)+wF (fs.drop (i+ts.length)) (cs.drop j)):=by
  have ON:cs=cs.take i++((cs.drop i).take ts.length++cs.drop j):=by
   rw[← hj,← hv,← List.drop_drop,List.take_append_drop,List.take_append_drop]
  have h2:wF fs cs=wF (fs.take i++(ts.map FS.d++fs.drop (i+ts.length))) (cs.take i++((cs.drop i).take ts.length++cs.drop j)):=by rw[hf,← ON]
  rw[h2,Z2 (by simp;omega),Z2 (by simp;omega)]
 omega
theorem Fl.Uf{h:T ab}{nx:Key}{A:Key→Prop}:∀ {fs:List FS} {cs:List AV},Fl W h nx A fs cs→wF fs cs≤100000→∀ (n:Nat) (h1:T ab),(∀ c∈cs,∀ b,rk c b→aa b h1=aa b h)→cJ W (fs.map FS.ct) (az (ax (n+1)) cs h1).1∧AV.iN (az (ax (n+1)) cs h1).1≤wF fs cs∧∀ b,¬ A b→aa b (az (ax (n+1)) cs h1).2=aa b h1
 |_,_,.nil,_,n,h1,_=>⟨.nil,by simp[az],fun _ _=>rfl⟩
 |_,_,.d t fs c cs ho hr,hl,n,h1,hs=>by
  simp at hl
  obtain⟨b1,w1,b2⟩:=hr.Uf (by omega) n h1 (fun c hc=>hs c (by simp[hc]))
  rw[Gf,ho.jh]
  exact⟨.cons _ _ _ _ ho b1,by simp;omega,b2⟩
 |_,_,.g k len fs c cs hg hx hr,hl,n,h1,hs=>by
  simp at hl
  have key:∃ v h2,ax (n+1) c h1=(v,h2)∧dg W (.sl k) v∧AV.wt v≤len∧(∀ b,¬ rk c b→aa b h2=aa b h1):=by
   rcases hg with rfl|⟨rs,ha,x,⟨q,rfl,hq|⟨hq,_⟩,_,_⟩|⟨t,rfl,_,_,_⟩⟩
   ·exact⟨.nils,h1,rfl,.nil k,by simp,fun _ _=>rfl⟩
   ·have hk:=(hs (.slice q 0 rs.length (W k).length) (by simp) q (.inl ⟨_,_,rfl⟩)).trans hq
    refine⟨_,_,Zu (n:=n) hk x.len x.bY,.sl k rs (by omega) x,by simpa using ha,fun b hb=>bU _ _ _ _ ?_⟩
    rintro rfl;exact hb (.inl ⟨_,_,rfl⟩)
   ·have hk:=(hs (.slice q 0 rs.length (W k).length) (by simp) q (.inl ⟨_,_,rfl⟩)).trans hq
    refine⟨_,_,si (n:=n) hk x.len x.bY,.sl k rs (by omega) x,by simpa using ha,fun b hb=>bU _ _ _ _ ?_⟩
    rintro rfl;exact hb (.inl ⟨_,_,rfl⟩)
   ·exact⟨_,h1,rfl,.sl k rs (by omega) x,by simpa using ha,fun _ _=>rfl⟩
  obtain⟨v,h2,e,ov,wv,hk⟩:=key
  obtain⟨b1,w1,b2⟩:=hr.Uf (by omega) n h2 (fun c' hc' b hb=>by
   rw[hk b (fun h3=>hx b h3 c' hc' hb)]
   exact hs c' (by simp[hc']) b hb)
  rw[Gf,e]
  exact⟨.cons _ _ _ _ ov b1,by simp;omega,fun b hb=>by rw[b2 b hb,hk b (fun h3=>hb (hg.own h3).1)]⟩
end Go.Sx
/-
 SG: data in memory, with the blocks that they may lie in. No condition.
-/
namespace Go.Sx
open Go
variable{W:H6}
mutual
inductive DaC(W:H6)(h:T ab)(A:Key→Prop):Nat→Nat→CT→AV→Prop
 |ok (d w:Nat) (t:CT) (c:AV):dg W t c→AV.wt c=w→DaC W h A d w t c
 |sl (d w k:Nat) (b:Key) (rs:List (List AV)) (kk:CK):aa b h=some (.cells rs.flatten kk)→(kk=.fix∨kk=.ro)→A b→rs.length≤100000→UK W h A d w k rs→DaC W h A (d+1) (rs.length+w) (.sl k) (.slice b 0 rs.length (W k).length)
inductive UK(W:H6)(h:T ab)(A:Key→Prop):Nat→Nat→Nat→List (List AV)→Prop
 |nil (d k:Nat):UK W h A d 0 k []
 |cons (d w1 w2 k:Nat) (r:List AV) (rs:List (List AV)):TL W h A d w1 (W k) r→UK W h A d w2 k rs→UK W h A d (w1+w2) k (r ::rs)
inductive TL(W:H6)(h:T ab)(A:Key→Prop):Nat→Nat→List CT→List AV→Prop
 |nil (d:Nat):TL W h A d 0 [] []
 |cons (d w1 w2:Nat) (t:CT) (ts:List CT) (c:AV) (cs:List AV):DaC W h A d w1 t c→TL W h A d w2 ts cs→TL W h A d (w1+w2) (t ::ts) (c ::cs)
end
variable{h0:T ab}{A:Key→Prop}
theorem TL.len:∀ {d w:Nat} {ts:List CT} {cs:List AV},TL W h0 A d w ts cs→cs.length=ts.length
 |_,_,_,_,.nil _=>rfl
 |_,_,_,_,.cons _ _ _ _ _ _ _ _ h=>by rw[Tj,Tj,h.len]
theorem UK.len:∀ {d w k:Nat} {rs:List (List AV)},UK W h0 A d w k rs→rs.flatten.length=rs.length*(W k).length
 |_,_,_,_,.nil _ _=>by simp
 |_,_,_,_,.cons _ _ _ _ _ _ hr h=>by rw[Xh,Lc,h.len,hr.len,Tj,Nat.add_mul,Nat.one_mul,Nat.add_comm]
mutual
theorem DaC.up{n:Nat}:∀ {d w:Nat} {t:CT} {c:AV},DaC W h0 A d w t c→d≤n→DaC W h0 A n w t c
 |_,_,_,_,.ok _ _ _ _ h hw,_=>.ok _ _ _ _ h hw
 |_,_,_,_,.sl d w k b rs kk h1 h2 h3 h4 h5,hn=>by
  obtain⟨m,rfl⟩:∃ m,n=m+1:=⟨n-1,by omega⟩
  exact .sl m w k b rs kk h1 h2 h3 h4 (h5.up (by omega))
theorem UK.up{n:Nat}:∀ {d w k:Nat} {rs:List (List AV)},UK W h0 A d w k rs→d≤n→UK W h0 A n w k rs
 |_,_,_,_,.nil _ _,_=>.nil _ _
 |_,_,_,_,.cons _ _ _ _ _ _ hr h,hn=>.cons _ _ _ _ _ _ (hr.up hn) (h.up hn)
theorem TL.up{n:Nat}:∀ {d w:Nat} {ts:List CT} {cs:List AV},TL W h0 A d w ts cs→d≤n→TL W h0 A n w ts cs
 |_,_,_,_,.nil _,_=>.nil _
 |_,_,_,_,.cons _ _ _ _ _ _ _ hc h,hn=>.cons _ _ _ _ _ _ _ (hc.up hn) (h.up hn)
end
mutual
theorem DaC.stay{h1:T ab}{A':Key→Prop}(R:∀ (b:Key) (l:List AV) (kk:CK),A b→aa b h0=some (.cells l kk)→(kk=.fix∨kk=.ro)→aa b h1=some (.cells l kk)∧A' b):∀ {d w:Nat} {t:CT} {c:AV},DaC W h0 A d w t c→DaC W h1 A' d w t c
 |_,_,_,_,.ok _ _ _ _ h hw=>.ok _ _ _ _ h hw
 |_,_,_,_,.sl d w k b rs kk h1 h2 h3 h4 h5=>.sl d w k b rs kk (R b _ kk h3 h1 h2).1 h2 (R b _ kk h3 h1 h2).2 h4 (h5.stay R)
theorem UK.stay{h1:T ab}{A':Key→Prop}(R:∀ (b:Key) (l:List AV) (kk:CK),A b→aa b h0=some (.cells l kk)→(kk=.fix∨kk=.ro)→aa b h1=some (.cells l kk)∧A' b):∀ {d w k:Nat} {rs:List (List AV)},UK W h0 A d w k rs→UK W h1 A' d w k rs
 |_,_,_,_,.nil _ _=>.nil _ _
 |_,_,_,_,.cons _ _ _ _ _ _ hr h=>.cons _ _ _ _ _ _ (hr.stay R) (h.stay R)
theorem TL.stay{h1:T ab}{A':Key→Prop}(R:∀ (b:Key) (l:List AV) (kk:CK),A b→aa b h0=some (.cells l kk)→(kk=.fix∨kk=.ro)→aa b h1=some (.cells l kk)∧A' b):∀ {d w:Nat} {ts:List CT} {cs:List AV},TL W h0 A d w ts cs→TL W h1 A' d w ts cs
 |_,_,_,_,.nil _=>.nil _
 |_,_,_,_,.cons _ _ _ _ _ _ _ hc h=>.cons _ _ _ _ _ _ _ (hc.stay R) (h.stay R)
end
def LoA(A:Key→Prop)(h h':T ab):Prop:=∀ b:Key,¬ A b→aa b h'=aa b h
mutual
theorem DaC.Uf:∀ {d w:Nat} {t:CT} {c:AV},DaC W h0 A d w t c→∀ (n:Nat),d<n→∀ (h1:T ab),Rf h0 h1→dg W t (ax n c h1).1∧AV.wt (ax n c h1).1=w∧Rf h1 (ax n c h1).2∧LoA A h1 (ax n c h1).2∧Pp h1 (ax n c h1).2
 |_,_,_,_,.ok _ _ _ _ h hw,n,_,h1,_=>by
  rw[h.jh n h1]
  exact⟨h,hw,Rf.refl _,fun _ _=>rfl,Pp.refl _⟩
 |_,_,_,_,.sl d w k b rs kk g1 g2 g3 g4 g5,n,hn,h1,R=>by
  obtain⟨m,rfl⟩:∃ m,n=m+1:=⟨n-1,by omega⟩
  obtain⟨kk',e1,e2⟩:=R b _ kk g1 g2
  have hlen:=g5.len
  have htk:(rs.flatten.drop 0).take (rs.length*(W k).length)=rs.flatten:=by rw[List.drop_zero];exact XO (by omega)
  have hle:rs.length*(W k).length≤(rs.flatten.drop 0).length:=by rw[List.drop_zero];omega
  rcases e1 with rfl|rfl
  ·obtain⟨qs,q1,q2,q3,qw,q4,q5,q6⟩:=g5.Uf m (by omega) (aK b (some (.cells rs.flatten .ro)) h1) (R.trans (aba e2))
   have e:ax (m+1) (.slice b 0 rs.length (W k).length) h1=(.sl (az (ax m) rs.flatten (aK b (some (.cells rs.flatten .ro)) h1)).1 rs.length (W k).length .any,(az (ax m) rs.flatten (aK b (some (.cells rs.flatten .ro)) h1)).2):=by
    show QM (ax m) _ _=_
    unfold QM
    simp only[e2,if_pos hle,htk]
   rw[e,q1]
   refine⟨?_,by simp[qw],(aba e2).trans q4,fun x hx=>?_,(aix e2).trans q6⟩
   ·rw[← q2];exact .sl k qs (by omega) q3
   ·rw[q5 x hx,bU]
    rintro rfl;exact hx g3
  ·obtain⟨qs,q1,q2,q3,qw,q4,q5,q6⟩:=g5.Uf m (by omega) h1 R
   have e:ax (m+1) (.slice b 0 rs.length (W k).length) h1=(.sl (az (ax m) rs.flatten h1).1 rs.length (W k).length .any,(az (ax m) rs.flatten h1).2):=by
    show QM (ax m) _ _=_
    unfold QM
    simp only[e2,if_pos hle,htk]
   rw[e,q1]
   refine⟨?_,by simp[qw],q4,q5,q6⟩
   rw[← q2];exact .sl k qs (by omega) q3
theorem UK.Uf:∀ {d w k:Nat} {rs:List (List AV)},UK W h0 A d w k rs→∀ (n:Nat),d<n→∀ (h1:T ab),Rf h0 h1→∃ qs:List (List AV),(az (ax n) rs.flatten h1).1=qs.flatten∧qs.length=rs.length∧dy W k qs∧AV.iN qs.flatten=w∧Rf h1 (az (ax n) rs.flatten h1).2∧LoA A h1 (az (ax n) rs.flatten h1).2∧Pp h1 (az (ax n) rs.flatten h1).2
 |_,_,_,_,.nil _ _,n,_,h1,_=>⟨[],rfl,rfl,.nil _,by simp,Rf.refl _,fun _ _=>rfl,Pp.refl _⟩
 |_,_,_,_,.cons _ _ _ _ r rs hr h,n,hn,h1,R=>by
  obtain⟨a1,aw,a2,a3,a4⟩:=hr.Uf n hn h1 R
  obtain⟨qs,b1,b2,b3,bw,b4,b5,b6⟩:=h.Uf n hn (az (ax n) r h1).2 (R.trans a2)
  refine⟨(az (ax n) r h1).1 ::qs,?_,by simp[b2],.cons _ _ _ a1 b3,by rw[Xh,vg,aw,bw],?_,?_,?_⟩
  ·rw[Xh,KN,Xh,b1]
  ·rw[Xh,KN];exact a2.trans b4
  ·rw[Xh,KN];exact fun x hx=>by rw[b5 x hx,a3 x hx]
  ·rw[Xh,KN];exact a4.trans b6
theorem TL.Uf:∀ {d w:Nat} {ts:List CT} {cs:List AV},TL W h0 A d w ts cs→∀ (n:Nat),d<n→∀ (h1:T ab),Rf h0 h1→cJ W ts (az (ax n) cs h1).1∧AV.iN (az (ax n) cs h1).1=w∧Rf h1 (az (ax n) cs h1).2∧LoA A h1 (az (ax n) cs h1).2∧Pp h1 (az (ax n) cs h1).2
 |_,_,_,_,.nil _,n,_,h1,_=>⟨.nil,by simp[az],Rf.refl _,fun _ _=>rfl,Pp.refl _⟩
 |_,_,_,_,.cons _ _ _ _ _ c cs hc h,n,hn,h1,R=>by
  obtain⟨a1,aw,a2,a3,a4⟩:=hc.Uf n hn h1 R
  obtain⟨b1,bw,b2,b3,b4⟩:=h.Uf n hn (ax n c h1).2 (R.trans a2)
  exact⟨.cons _ _ _ _ a1 b1,by rw[Gf];simp[aw,bw],a2.trans b2,fun x hx=>by rw[Gf];exact(b3 x hx).trans (a3 x hx),a4.trans b4⟩
end
theorem cJ.da:∀ {ts:List CT} {cs:List AV},cJ W ts cs→∀ (d:Nat),TL W h0 A d (AV.iN cs) ts cs
 |_,_,.nil,d=>by rw[agZ];exact .nil d
 |_,_,.cons _ _ _ _ hc h,d=>by rw[Y7];exact .cons _ _ _ _ _ _ _ (.ok _ _ _ _ hc rfl) (h.da d)
theorem TL.aU:∀ {d w:Nat} {ts:List CT} {cs:List AV},TL W h0 A d w ts cs→∀ y∈cs,AV.aD y=true
 |_,_,_,_,.nil _,y,hy=>by simp at hy
 |_,_,_,_,.cons _ _ _ _ _ _ _ hc h,y,hy=>by
  rcases xH.1 hy with rfl|hy
  ·cases hc with
   |ok _ _ _ _ h=>exact h.cell
   |sl=>rfl
  ·exact h.aU y hy
theorem TL.lits:∀ {d w:Nat} {ts:List CT} {cs:List AV},TL W h0 A d w ts cs→AV.kP cs=true
 |_,_,_,_,.nil _=>rfl
 |_,_,_,_,.cons _ _ _ _ _ c _ hc h=>by
  have h2:=h.lits
  have h1:AV.lits c=true:=by
   cases hc with
   |ok _ _ _ _ h=>exact h.lits
   |sl=>rfl
  simp[AV.kP,h1,h2]
end Go.Sx
/-
 SP: the reference's reader of tokens: its state. No condition.
-/
namespace Tb
open Go.Sx Go
abbrev YG:List CT:=[.int,.str,.sl 3]
abbrev sj:List CT:=[.int,.str,.int,.sl 0,.sl 2,.sl 4,.int]
abbrev RZ:List CT:=[.int,.str,.sl 1,.sl 4,.sl 5,.int]
def W0:H6
 |0=>[.str]
 |1=>[.int]
 |2=>[.sl 0]
 |3=>YG
 |4=>sj
 |5=>RZ
 |6=>.str ::YG
 |7=>.str ::(YG++RZ ++ [.bool])
 |8=>[.str,.sl 3]
 |9=>.str ::sj
 |10=>[.str,.int,.int]
 |11=>.str ::.sl 7 ::(sj++sj++sj)
 |12=>[.str,.sl 6,.sl 13]
 |13=>sj++sj
 |14=>[.int,.str,.int,.sl 8,.sl 6]++YG++sj ++ [.int]++RZ ++ [.sl 7,.sl 9,.sl 9,.sl 10]++YG++sj ++ [.sl 11,.sl 12]++sj
 |15=>[.int,.int,.int,.str]
 |_=>[]
def Tk(c:AV)(rs:List (List AV)):Prop:=(c=.nils∧rs=[])∨c=.sl rs.flatten rs.length 4 .any
structure PP(p:Key)(m:Nat)(h:T ab)(nx:Key):Prop where
 hi:p.toNat<nx.toNat
 at_:∃ (sn sc:Nat) (c:AV) (rs:List (List AV)) (i:Nat) (bad:Bool),aa p h=some (.cells [.str sn sc,c,I i,.bool bad] .fix)∧sn≤10000∧Tk c rs∧rs.length≤10000∧dy W0 15 rs∧i≤rs.length∧m=(if bad=true then 0 else rs.length-i+1)
theorem PP.ext{p:Key}{m:Nat}{h h':T ab}{nx nx':Key}(P:PP p m h nx)(e:Ext h nx h' nx'):PP p m h' nx':=by
 obtain⟨sn,sc,c,rs,i,bad,a1,a2⟩:=P.at_
 exact⟨by have:=P.hi;have:=e.n;omega,sn,sc,c,rs,i,bad,by rw[e.g p P.hi];exact a1,a2⟩
theorem PP.put{p b:Key}{m:Nat}{h:T ab}{nx:Key}{B:Option ab}(P:PP p m h nx)(hb:b≠p):PP p m (aK b B h) nx:=by
 obtain⟨sn,sc,c,rs,i,bad,a1,a2⟩:=P.at_
 exact⟨P.hi,sn,sc,c,rs,i,bad,by rw[bU _ _ _ _ (Ne.symm hb)];exact a1,a2⟩
theorem PP.up{p:Key}{m:Nat}{h:T ab}{nx nx':Key}(P:PP p m h nx)(hn:nx.toNat≤nx'.toNat):PP p m h nx':=⟨by have:=P.hi;omega,P.at_⟩
structure Ks(p:Key)(h:T ab)(nx:Key)(h':T ab)(nx':Key):Prop where
 n:nx.toNat≤nx'.toNat
 g:∀ b:Key,b.toNat<nx.toNat→b≠p→aa b h'=aa b h
theorem Ks.refl(p:Key)(h:T ab)(nx:Key):Ks p h nx h nx:=⟨bS _,fun _ _ _=>rfl⟩
theorem Ks.trans{p:Key}{h h1 h2:T ab}{nx aY aH:Key}(a:Ks p h nx h1 aY)(b:Ks p h1 aY h2 aH):Ks p h nx h2 aH:=
 ⟨Nat.le_trans a.n b.n,fun q h1 h2=>by rw[b.g q (by have:=a.n;omega) h2,a.g q h1 h2]⟩
theorem _root_.Go.Sx.Ext.ks{h h':T ab}{nx nx':Key}(e:Ext h nx h' nx')(p:Key):Ks p h nx h' nx':=⟨e.n,fun b hb _=>e.g b hb⟩
theorem UL{rs:List (List AV)}(h:dy W0 15 rs){i:Nat}(hi:i<rs.length):∃ (k a n:Int) (tn tc:Nat),List.take 4 (List.drop (i*4) rs.flatten)=[I k,I a,I n,.str tn tc]∧4≤rs.flatten.length-i*4∧cJ W0 [.int,.int,.int,.str] [I k,I a,I n,.str tn tc]:=by
 obtain⟨e,hr⟩:=h.at_ hi
 have hl:=h.len
 have e4:(W0 15).length=4:=rfl
 rw[e4] at e hl
 have hr:cJ W0 [.int,.int,.int,.str] rs[i]:=hr
 have aM:i*4+4≤rs.length*4:=by omega
 generalize rs[i]=r at e hr
 cases hr with
 |cons _ _ c1 r1 h1 hr=>
  cases hr with
  |cons _ _ c2 r2 h2 hr=>
   cases hr with
   |cons _ _ c3 r3 h3 hr=>
    cases hr with
    |cons _ _ c4 r4 h4 hr=>
     cases hr
     cases h1 with
     |int k a b=>
      cases h2 with
      |int k2 a2 b2=>
       cases h3 with
       |int k3 a3 b3=>
        cases h4 with
        |str tn tc a4 b4=>
         exact⟨k,k2,k3,tn,tc,e,by omega,.cons _ _ _ _ (.int _ a b) (.cons _ _ _ _ (.int _ a2 b2) (.cons _ _ _ _ (.int _ a3 b3) (.cons _ _ _ _ (.str _ _ a4 b4) .nil)))⟩
variable{C:cU}
def afN(m:Nat)(h:T ab)(nx:Key)(o:Out)(h':T ab)(nx':Key):Prop:=(∃ b:Bool,o=.ret (.bool b)∧(b=true→2≤m))∧Ext h nx h' nx'
theorem akn(S:Fn C cG vo){p:Key}{m:Nat}{h:T ab}{nx:Key}(P:PP p m h nx)(a b:Nat):aO C cG [.ptr p 0,.str a b] h nx (afN m h nx):=by
 obtain⟨sn,sc,c,rs,i,bad,g,a2,a3,a4,a5,a6,rfl⟩:=P.at_
 refine S.call ?_
 simp[vo]
 simp[SC]
 cases bad with
 |true=>
  simp[uj,g]
  exact⟨⟨_,rfl,by simp⟩,Ext.refl _ _⟩
 |false=>
  by_cases hi:i<rs.length
  ·obtain⟨k,at',n,tn,tc,e1,e2,_⟩:=UL a5 hi
   rcases a3 with⟨_,rfl⟩|rfl
   ·simp at hi
   ·generalize rs.flatten=L at g e1 e2
    simp[uj,g,hi,e1,e2]
    exact⟨⟨_,rfl,fun _=>by simp;omega⟩,Ext.refl _ _⟩
  ·have IU:rs.length=i:=by omega
   rcases a3 with⟨rfl,rfl⟩|rfl
   ·simp at IU
    subst IU
    simp[uj,g]
    exact⟨⟨_,rfl,by simp⟩,Ext.refl _ _⟩
   ·generalize rs.flatten=L at g
    simp[uj,g,hi]
    exact⟨⟨_,rfl,by simp⟩,Ext.refl _ _⟩
theorem PP.step{p:Key}{h:T ab}{nx:Key}{sn sc:Nat}{c:AV}{rs:List (List AV)}{i:Nat}(hp:p.toNat<nx.toNat)(a2:sn≤10000)(a3:Tk c rs)(a4:rs.length≤10000)(a5:dy W0 15 rs)(hi:i<rs.length):PP p (rs.length-i) (aK p (some (.cells [.str sn sc,c,I ((i+1:Nat):Int),.bool false] .fix)) h) nx:=
 ⟨hp,sn,sc,c,rs,i+1,false,by rw[gTSm],a2,a3,a4,a5,hi,by simp;omega⟩
theorem PP.fail{p:Key}{h:T ab}{nx:Key}{sn sc:Nat}{c:AV}{rs:List (List AV)}{i:Nat}(hp:p.toNat<nx.toNat)(a2:sn≤10000)(a3:Tk c rs)(a4:rs.length≤10000)(a5:dy W0 15 rs)(hi:i≤rs.length):PP p 0 (aK p (some (.cells [.str sn sc,c,I i,.bool true] .fix)) h) nx:=
 ⟨hp,sn,sc,c,rs,i,true,by rw[gTSm],a2,a3,a4,a5,hi,by simp⟩
def ako(p:Key)(m:Nat)(h:T ab)(nx:Key)(o:Out)(h':T ab)(nx':Key):Prop:=(∃ (b:Bool) (m':Nat),o=.ret (.bool b)∧PP p m' h' nx'∧(if b=true then m'<m∧0<m' else m'=m))∧Ks p h nx h' nx'
def akp(p:Key)(m:Nat)(h:T ab)(nx:Key)(o:Out)(h':T ab)(nx':Key):Prop:=(∃ m':Nat,o=.ret (.tuple [])∧PP p m' h' nx'∧(m'<m∨m'=0))∧Ks p h nx h' nx'
theorem amT(S:Fn C ao wO)(SI:Fn C cG vo)(q:C.raw cG=false){p:Key}{m:Nat}{h:T ab}{nx:Key}(P:PP p m h nx)(a b:Nat):aO C ao [.ptr p 0,.str a b] h nx (ako p m h nx):=by
 refine S.call ?_
 simp[wO]
 simp[Nd]
 simp[Nf,q]
 refine(akn SI P a b).mono ?_
 rintro o h1 aY ⟨⟨t,rfl,ht⟩,e1⟩
 have P1:=P.ext e1
 simp
 cases t with
 |false=>
  simp[Cj]
  simp[Ck]
  exact⟨⟨false,m,rfl,P1,by simp⟩,e1.ks p⟩
 |true=>
  have hm:=ht rfl
  obtain⟨sn,sc,c,rs,i,bad,g,a2,a3,a4,a5,a6,rfl⟩:=P1.at_
  cases bad with
  |true=>simp at hm
  |false=>
   simp at hm
   have hw:aW .i64 ((i:Int)+1)=((i+1:Nat):Int):=by rw[show(i:Int)+1=((i+1:Nat):Int) by omega];exact br (by omega) (by omega)
   simp[Cj]
   simp[Ng,g,hw]
   simp[Ck]
   refine⟨⟨true,rs.length-i,rfl,PP.step P1.hi a2 a3 a4 a5 (by omega),by simp;omega⟩,e1.n,fun x hx hxp=>?_⟩
   rw[bU _ _ _ _ hxp,e1.g x hx]
theorem akq(S:Fn C ah wQ)(SI:Fn C cG vo)(q:C.raw cG=false){p:Key}{m:Nat}{h:T ab}{nx:Key}(P:PP p m h nx)(a b:Nat):aO C ah [.ptr p 0,.str a b] h nx (akp p m h nx):=by
 refine S.call ?_
 simp[wQ]
 simp[Nh,q]
 refine(akn SI P a b).mono ?_
 rintro o h1 aY ⟨⟨t,rfl,ht⟩,e1⟩
 have P1:=P.ext e1
 obtain⟨sn,sc,c,rs,i,bad,g,a2,a3,a4,a5,a6,rfl⟩:=P1.at_
 cases t with
 |false=>
  simp[Ni,g]
  refine⟨⟨0,rfl,PP.fail P1.hi a2 a3 a4 a5 a6,.inr rfl⟩,e1.n,fun x hx hxp=>?_⟩
  rw[bU _ _ _ _ hxp,e1.g x hx]
 |true=>
  have hm:=ht rfl
  cases bad with
  |true=>simp at hm
  |false=>
   simp at hm
   have hw:aW .i64 ((i:Int)+1)=((i+1:Nat):Int):=by rw[show(i:Int)+1=((i+1:Nat):Int) by omega];exact br (by omega) (by omega)
   simp[Nj,g,hw]
   refine⟨⟨rs.length-i,rfl,PP.step P1.hi a2 a3 a4 a5 (by omega),.inl (by simp)⟩,e1.n,fun x hx hxp=>?_⟩
   rw[bU _ _ _ _ hxp,e1.g x hx]
end Tb
